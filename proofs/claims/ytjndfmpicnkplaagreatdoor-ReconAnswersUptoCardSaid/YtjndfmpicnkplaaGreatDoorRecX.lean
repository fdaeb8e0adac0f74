/- Layer 20: the reference's Get; copied. Layer 20: Read. Layer 20: totals in memory; which one is a member's. Layer 20: Answer. Layer 20: a number with its sign; Ask. Conditions: as each theorem says. -/
import Derived.Test.YtjndfmpicnkplaaGreatDoorMsgY
import Derived.Test.YtjndfmpicnkplaaGreatDoorMsgX
import Derived.Test.YtjndfmpicnkplaaGreatDoorWEqStruct
namespace Go.Proofs.YtjndfmpicnkplaaGreatDoor.msgw
open Go.RowKit
open Go.Proofs.YtjndfmpicnkplaaGreatDoor.msgp
open Go.Proofs.YtjndfmpicnkplaaGreatDoor.buf
theorem rget_any {w : World} {v : Value} {F : Flds} (h : FsAt w v F) (ty no : Int) :
    Calls Tryz.prog 13 #[.agg #[.int .i64 ty, v], .int .i64 no] w fun e w' => e = .returned (.tuple #[.string ((getM F no).getD ⟨#[]⟩), .bool (getM F no).isSome]) ∧ Below w.heap.size w w' := by
  obtain ⟨p, c, rfl⟩ := h.shape
  have hl := h.1
  simp only [maxLen] at hl
  obtain ⟨w1, e1⟩ : ∃ W, w.alloc (.cells #[.int .i64 ty, .slice p F.length c] 29) = W := ⟨_, rfl⟩
  have b1 : Below w.heap.size w w1 := by rw [← e1]; exact (Below.refl _ _).alloc (Nat.le_refl _) _
  have k1 : w1.heap[w.heap.size]? = some (.cells #[.int .i64 ty, .slice p F.length c] 29 (0, 0)) := by rw [← e1]; exact heap_alloc_last _ _
  have H := Lib.hid (h.below b1)
  have B1 := Lib.hid b1
  have K1 := Lib.hid k1
  have E1 := Lib.hid e1
  have L1 := Lib.hid (show w.heap.size < w1.heap.size by rw [← e1]; simp)
  clear h b1 k1 e1
  go_enter Tryz.func13, Tryz.ntmps13
  go_wp2_with fail
  rw [E1.out]
  go_loopw [6] (fun i wr => Below w1.heap.size w1 wr ∧ ∃ k : Nat, k ≤ F.length ∧ i = .int .i64 k ∧ getM F no = getM (F.drop k) no) (fun i _ => F.length - (intOf i).toNat)
  case atStart => exact ⟨Below.refl _ _, 0, by omega, rfl, by simp⟩
  case round =>
    obtain ⟨hbw, k, hk, rfl, he⟩ := hrel
    have m1 : wr.cell? ⟨w.heap.size, 1, none⟩ = some (.slice p F.length c) := hbw.keptCell (cells_at K1.out 1)
    by_cases hlt : k < F.length
    · have hlt' : (k : Int) < F.length := by omega
      obtain ⟨b, o, rfl, q0, q1⟩ := (H.out.below hbw).get k hlt
      have hst := getM_step F no k hlt
      obtain ⟨x, ex⟩ : ∃ x, x = F[k] := ⟨_, rfl⟩
      rw [← ex] at q0 q1 hst
      obtain ⟨n, s⟩ := x
      rw [hst] at he
      have HE := Lib.hid he
      have HB := Lib.hid hbw
      have HBW := Lib.hid (B1.out.trans (hbw.mono B1.out.size))
      clear he hst ex hbw
      by_cases hn : n = no
      · subst hn
        have HE2 := Lib.hid (show getM F n = some s by rw [HE.out, if_pos rfl])
        go_wp2_with fail
        go_ret2
        exact ⟨by rw [HE2.out]; rfl, HBW.out⟩
      · have HE2 := Lib.hid (show getM F no = getM (F.drop (k + 1)) no by rw [HE.out, if_neg hn])
        go_wp2_with fail
        go_roundw
        case rel => exact ⟨HB.out, k + 1, by omega, by go_num, HE2.out⟩
        case measure => simp [intOf]; omega
    · obtain rfl : k = F.length := by omega
      have hlt' : ¬ (F.length : Int) < F.length := by omega
      have HE := Lib.hid (show getM F no = none by rw [he, List.drop_length]; rfl)
      have HBW := Lib.hid (B1.out.trans (hbw.mono B1.out.size))
      clear he hbw
      go_wp2_with fail
      go_ret2
      exact ⟨by rw [HE.out]; rfl, HBW.out⟩
def copyM (F : Flds) (nos : List Int) (acc : Flds) : Flds := nos.foldl (fun acc no => match getM F no with | none => acc | some s => setM acc no s) acc
theorem setM_len (F : Flds) (no : Int) (s : ByteArray) : (setM F no s).length ≤ F.length + 1 := by
  have h1 : (delM F no).length ≤ F.length := List.length_filter_le _ _
  have h2 := spot_le (delM F no) no
  unfold setM insM
  rw [List.length_append, List.length_cons, List.length_take, List.length_drop]
  omega
theorem copyM_snoc (F : Flds) (nos : List Int) (k : Nat) (hk : k < nos.length) (acc : Flds) : copyM F (nos.take (k + 1)) acc = match getM F nos[k] with | none => copyM F (nos.take k) acc | some s => setM (copyM F (nos.take k) acc) nos[k] s := by
  unfold copyM
  rw [← List.take_append_getElem hk, List.foldl_append]
  rfl
theorem copyM_len (F : Flds) (nos : List Int) (acc : Flds) : (copyM F nos acc).length ≤ acc.length + nos.length := by
  induction nos generalizing acc with
  | nil => exact Nat.le_refl _
  | cons n r ih =>
    have : copyM F (n :: r) acc = copyM F r (match getM F n with | none => acc | some s => setM acc n s) := rfl
    rw [this]
    refine Nat.le_trans (ih _) ?_
    rw [List.length_cons]
    cases getM F n with
    | none => show acc.length + r.length ≤ _; omega
    | some s => have := setM_len acc n s; show (setM acc n s).length + r.length ≤ _; omega
/-- Integers in a slice. -/
def IntsAt (w : World) (v : Value) (l : List Int) : Prop := ∃ b o c, v = .slice (some ⟨b, o, none⟩) l.length c ∧ ∀ i (h : i < l.length), w.cell? ⟨b, o + i, none⟩ = some (.int .i64 l[i])
theorem IntsAt.below {w w' : World} {v : Value} {l : List Int} (h : IntsAt w v l) (hb : Below w.heap.size w w') : IntsAt w' v l := by
  obtain ⟨b, o, c, e, h1⟩ := h
  exact ⟨b, o, c, e, fun i hi => hb.keptCell (h1 i hi)⟩
set_option maxHeartbeats 1000000 in
set_option maxRecDepth 100000 in
theorem copied_any {w : World} {v nv : Value} {F : Flds} {nos : List Int} (h : FsAt w v F) (hn : IntsAt w nv nos) (hl : nos.length ≤ 100) (kind ty : Int) :
    Calls Tryz.prog 20 #[.int .i64 kind, .agg #[.int .i64 ty, v], nv] w fun e w' => ∃ v', e = .returned (.agg #[.int .i64 kind, v']) ∧ FBuf w.heap.size w' v' (copyM F nos []) ∧ Below w.heap.size w w' := by
  obtain ⟨p, c, rfl⟩ := h.shape
  obtain ⟨nb, no, nc, rfl, hn2⟩ := hn
  obtain ⟨B, eB⟩ : ∃ b, w.heap.size = b := ⟨_, rfl⟩
  obtain ⟨w0, e0⟩ : ∃ W, ((w.alloc (.cells #[.int .i64 ty, .slice p F.length c] 29)).alloc (.cells #[.int .i64 0, .slice none 0 0] 29)).alloc (.cells #[.int .i64 kind, .slice none 0 0] 29) = W := ⟨_, rfl⟩
  have b0 : Below w.heap.size w w0 := by rw [← e0]; exact (((Below.refl _ _).alloc (Nat.le_refl _) _).alloc (by simp) _).alloc (by simp; omega) _
  have s0 : w0.heap.size = B + 3 := by rw [← e0, ← eB]; simp
  have km : w0.heap[B]? = some (.cells #[.int .i64 ty, .slice p F.length c] 29 (0, 0)) := by
    rw [← e0, ← eB, Below.heap_alloc _ _ _ (by simp; omega), Below.heap_alloc _ _ _ (by simp)]
    exact heap_alloc_last _ _
  have kr : w0.heap[B + 1]? = some (.cells #[.int .i64 0, .slice none 0 0] 29 (0, 0)) := by
    rw [← e0, ← eB, Below.heap_alloc _ _ _ (by simp)]
    have := heap_alloc_last (w.alloc (.cells #[.int .i64 ty, .slice p F.length c] 29)) (.cells #[.int .i64 0, .slice none 0 0] 29)
    simpa using this
  have ko : w0.heap[B + 2]? = some (.cells #[.int .i64 kind, .slice none 0 0] 29 (0, 0)) := by
    rw [← e0, ← eB]
    have := heap_alloc_last ((w.alloc (.cells #[.int .i64 ty, .slice p F.length c] 29)).alloc (.cells #[.int .i64 0, .slice none 0 0] 29)) (.cells #[.int .i64 kind, .slice none 0 0] 29)
    simpa using this
  have H := Lib.hid h
  have HN := Lib.hid hn2
  have HB0 := Lib.hid b0
  have S0 := Lib.hid s0
  have KM := Lib.hid km
  have KR := Lib.hid kr
  have KO := Lib.hid ko
  have E0 := Lib.hid e0
  have EB := Lib.hid eB
  have HL := Lib.hid hl
  clear h hn2 b0 s0 km kr ko e0
  go_enter Tryz.func20, Tryz.ntmps20
  go_wp2_with fail
  rw [E0.out]
  clear eB
  go_loopw [16] (fun i wr => Below w.heap.size w wr ∧ B + 3 ≤ wr.heap.size ∧ wr.heap[B]? = some (.cells #[.int .i64 ty, .slice p F.length c] 29 (0, 0)) ∧ wr.heap[B + 1]? = some (.cells #[.int .i64 0, .slice none 0 0] 29 (0, 0)) ∧ ∃ (k : Nat) (vo : Value), k ≤ nos.length ∧ i = .int .i64 k ∧ wr.heap[B + 2]? = some (.cells #[.int .i64 kind, vo] 29 (0, 0)) ∧ FBuf (B + 3) wr vo (copyM F (nos.take k) [])) (fun i _ => nos.length - (intOf i).toNat)
  case atStart => exact ⟨HB0.out, by rw [S0.out]; omega, KM.out, KR.out, 0, _, by omega, rfl, KO.out, ⟨⟨rfl, .inl ⟨rfl, .inl rfl⟩⟩, fun g hg => by simp [bufBlock] at hg⟩⟩
  case round =>
    obtain ⟨hbw, hsz, km, kr, k, vo, hk, rfl, ko, hf⟩ := hrel
    obtain ⟨po, co, rfl, _, _⟩ := hf.buf.shape
    have m0 := cells_at km 0
    have m1 := cells_at km 1
    have o0 := cells_at ko 0
    have o1 := cells_at ko 1
    have HF := Lib.hid hf
    have HSZ := Lib.hid hsz
    have HKM := Lib.hid km
    have HKR := Lib.hid kr
    have HKO := Lib.hid ko
    have HBW := Lib.hid hbw
    clear hsz km kr ko hf
    by_cases hlt : k < nos.length
    · have hlt' : (k : Int) < nos.length := by omega
      have q0 : wr.cell? ⟨nb, no + k, none⟩ = some (.int .i64 nos[k]) := hbw.keptCell (HN.out k hlt)
      have hsn := copyM_snoc F nos k hlt []
      obtain ⟨x, ex⟩ : ∃ x, nos[k] = x := ⟨_, rfl⟩
      rw [ex] at q0 hsn
      have HSN := Lib.hid hsn
      have HGET := Lib.hid (get_any (H.out.below hbw) ty x)
      have HLT := Lib.hid hlt
      clear hsn hbw ex
      go_wp2_with fail
      refine HGET.out.mono ?_
      rintro e w1 ⟨rfl, b1⟩
      have HB1 := Lib.hid (HBW.out.trans (b1.mono HBW.out.size))
      have l2 : B + 2 < wr.heap.size := by have := HSZ.out; omega
      have km1 := (b1.block B (by omega)).trans HKM.out
      have kr1 := (b1.block (B + 1) (by omega)).trans HKR.out
      have ko1 := (b1.block (B + 2) l2).trans HKO.out
      have HF1 := Lib.hid (HF.out.below b1)
      have hs1 : B + 3 ≤ w1.heap.size := Nat.le_trans HSZ.out b1.size
      have HS1 := Lib.hid hs1
      clear b1 m0 m1 o0 o1 l2 hs1
      obtain ⟨G, eG⟩ : ∃ G, getM F x = G := ⟨_, rfl⟩
      rw [eG] at HSN ⊢
      clear eG HGET
      cases G with
      | none =>
        simp only [Option.getD_none, Option.isSome_none]
        have HKM1 := Lib.hid km1
        have HKR1 := Lib.hid kr1
        have HKO1 := Lib.hid ko1
        clear km1 kr1 ko1
        go_wp2_with fail
        go_roundw
        case rel => exact ⟨HB1.out, HS1.out, HKM1.out, HKR1.out, k + 1, _, by omega, by go_num, HKO1.out, by rw [HSN.out]; exact HF1.out⟩
        case measure => simp [intOf]; omega
      | some s =>
        simp only [Option.getD_some, Option.isSome_some]
        have o0 := cells_at ko1 0
        have o1 := cells_at ko1 1
        have hlen := copyM_len F (nos.take k) []
        rw [List.length_take, Nat.min_eq_left (Nat.le_of_lt HLT.out)] at hlen
        have hlen2 : (copyM F (nos.take k) []).length ≤ 100 := by have := HL.out; have : ([] : Flds).length = 0 := rfl; omega
        have HSET := Lib.hid (set_any (HF1.out.fs (by simp only [maxLen]; omega)) (by omega) kind x s)
        have HKM1 := Lib.hid km1
        have HKR1 := Lib.hid kr1
        have HKO1 := Lib.hid ko1
        clear km1 kr1 ko1 hlen hlen2
        go_wp2_with fail
        refine HSET.out.mono ?_
        rintro e w2 ⟨v2, rfl, f2, b2⟩
        obtain ⟨p2, c2, rfl, _, _⟩ := f2.buf.shape
        have ko2 := (b2.block (B + 2) (by have := HS1.out; omega)).trans HKO1.out
        have km2 := (b2.block B (by have := HS1.out; omega)).trans HKM1.out
        have kr2 := (b2.block (B + 1) (by have := HS1.out; omega)).trans HKR1.out
        have hst := store_all (ty := 29) ko2 info32s rfl #[.int .i64 kind, .slice p2 (setM (copyM F (nos.take k) []) x s).length c2] rfl rfl
        obtain ⟨w3, e3⟩ : ∃ W, w2.setRow (B + 2) #[.int .i64 kind, .slice p2 (setM (copyM F (nos.take k) []) x s).length c2] = W := ⟨_, rfl⟩
        have HE3 := Lib.hid e3
        have hs2 : B + 3 ≤ w2.heap.size := Nat.le_trans HS1.out b2.size
        have KO3 := Lib.hid (show w3.heap[B + 2]? = some (.cells #[.int .i64 kind, .slice p2 (setM (copyM F (nos.take k) []) x s).length c2] 29 (0, 0)) by rw [← e3]; exact setRow_block ko2)
        have KM3 := Lib.hid (show w3.heap[B]? = some (.cells #[.int .i64 ty, .slice p F.length c] 29 (0, 0)) by rw [← e3]; exact (setRow_other _ _ B _ (by omega)).trans km2)
        have KR3 := Lib.hid (show w3.heap[B + 1]? = some (.cells #[.int .i64 0, .slice none 0 0] 29 (0, 0)) by rw [← e3]; exact (setRow_other _ _ (B + 1) _ (by omega)).trans kr2)
        have HS3 := Lib.hid (show B + 3 ≤ w3.heap.size by rw [← e3]; simpa using hs2)
        have HBx := Lib.hid (HB1.out.trans (b2.mono HB1.out.size))
        have HB3 := Lib.hid (show Below w.heap.size w w3 by
          rw [← e3]
          exact ⟨HBx.out.os, HBx.out.tape, HBx.out.output, by have h9 := HBx.out.size; simpa using h9, fun q hq => (setRow_other _ _ q _ (by have := EB.out; omega)).trans (HBx.out.block q hq)⟩)
        have HF3 := Lib.hid (show FBuf (B + 3) w3 (.slice p2 (setM (copyM F (nos.take k) []) x s).length c2) (copyM F (nos.take (k + 1)) []) by
          rw [HSN.out, ← e3]
          exact ⟨f2.buf.kept fun q hq => setRow_other _ _ q _ (by have h9 := f2.new q hq; have := HS1.out; omega), fun q hq => Nat.le_trans HS1.out (f2.new q hq)⟩)
        rw [e3] at hst
        clear ko2 km2 kr2 b2 f2 e3 hs2 o0 o1
        go_wp2_with (refine wpList_store_at rfl 29 (.tmp 7) (.tmp 30) rfl ⟨B + 2, 0, none⟩ rfl _ rfl hst ?_)
        go_roundw
        case rel => exact ⟨HB3.out, HS3.out, KM3.out, KR3.out, k + 1, _, by omega, by go_num, KO3.out, HF3.out⟩
        case measure => simp [intOf]; omega
    · obtain rfl : k = nos.length := by omega
      have hlt' : ¬ (nos.length : Int) < nos.length := by omega
      rw [List.take_length] at HF o1
      have hst := store_all (ty := 29) HKR.out info32s rfl #[.int .i64 kind, .slice po (copyM F nos []).length co] rfl rfl
      have HRES := Lib.hid (show FBuf w.heap.size (wr.setRow (B + 1) #[.int .i64 kind, .slice po (copyM F nos []).length co]) (.slice po (copyM F nos []).length co) (copyM F nos []) ∧ Below w.heap.size w (wr.setRow (B + 1) #[.int .i64 kind, .slice po (copyM F nos []).length co]) by
        refine ⟨?_, HBW.out.os, HBW.out.tape, HBW.out.output, by have h9 := HBW.out.size; simpa using h9, fun q hq => (setRow_other _ _ q _ (by have := EB.out; omega)).trans (HBW.out.block q hq)⟩
        have h2 := HF.out
        exact ⟨h2.buf.kept fun q hq => setRow_other _ _ q _ (by have h9 := h2.new q hq; omega), fun q hq => by have h9 := h2.new q hq; have := EB.out; omega⟩)
      clear hbw
      go_wp2_with (refine wpList_store_at rfl 29 (.tmp 6) (.tmp 32) rfl ⟨B + 1, 0, none⟩ rfl _ rfl hst ?_)
      refine bodyPost_ret (results_cell_row rfl _ _ (B + 1) _ #[.int .i64 kind, .slice po (copyM F nos []).length co] (0, 0) _ rfl (setRow_block HKR.out) Tryz.underlying29 rfl info32s) rfl ?_
      exact ⟨_, rfl, HRES.out⟩
end Go.Proofs.YtjndfmpicnkplaaGreatDoor.msgw
namespace Go.Proofs.YtjndfmpicnkplaaGreatDoor.msgw
open Go.RowKit
open Go.Proofs.YtjndfmpicnkplaaGreatDoor.msgp
open Go.Proofs.YtjndfmpicnkplaaGreatDoor.buf
open Go.Proofs.YtjndfmpicnkplaaGreatDoor.fieldp
open Go.Proofs.YtjndfmpicnkplaaGreatDoor.fieldw
def readNos : List Int := [7, 11, 32, 74, 76, 86, 88, 97]
/-- The fields that hold numbers: number, kind, size. -/
def tail5 : List Shp := [(74, 1, 10), (76, 1, 10), (86, 1, 16), (88, 1, 16), (97, 5, 16)]
/-- What a stated number is. -/
def valOf (sz : Int) (s : ByteArray) : Int := if s.data.toList.head? = some 68 then -(amountR (s.extract ((s.size : Int) - sz).toNat s.size).data.toList).1 else (amountR (s.extract ((s.size : Int) - sz).toNat s.size).data.toList).1
def readL (x : Flds) : List Shp → Option (List Int)
  | [] => some []
  | t :: r => if checkR t.2.1 t.2.2 1 ((getM x t.1).getD ⟨#[]⟩).data.toList = 0 then (readL x r).map (valOf t.2.2 ((getM x t.1).getD ⟨#[]⟩) :: ·) else none
/-- What Read answers. -/
def readR (ty : Int) (F : Flds) : List Int × Int := if ty ≠ 500 then ([0, 0, 0, 0, 0], 51) else if (copyM F readNos []).length < 8 then ([0, 0, 0, 0, 0], 52) else match readL (copyM F readNos []) tail5 with
  | none => ([0, 0, 0, 0, 0], 41)
  | some l => (l, 0)
def totV (m : Int) (l : List Int) : Value := .agg (#[.int .i64 m] ++ (l.map (fun z => Value.int .i64 z)).toArray)
def SmallF (F : Flds) : Prop := ∀ x ∈ F, x.2.size ≤ 100000000
theorem getM_small {F : Flds} (h : SmallF F) (no : Int) : ((getM F no).getD ⟨#[]⟩).size ≤ 100000000 := by
  unfold getM
  cases e : F.find? fun x => decide (x.1 = no) with
  | none => decide
  | some y => exact h y (List.mem_of_find?_eq_some e)
theorem delM_small {F : Flds} (h : SmallF F) (no : Int) : SmallF (delM F no) := fun x hx => h x (List.mem_filter.1 hx).1
theorem setM_small {F : Flds} (h : SmallF F) (no : Int) {s : ByteArray} (hs : s.size ≤ 100000000) : SmallF (setM F no s) := by
  intro x hx
  unfold setM insM at hx
  rcases List.mem_append.1 hx with h1 | h1
  · exact delM_small h no x (List.mem_of_mem_take h1)
  · rcases List.mem_cons.1 h1 with rfl | h2
    · exact hs
    · exact delM_small h no x (List.mem_of_mem_drop h2)
theorem copyM_small {F : Flds} (h : SmallF F) : ∀ (nos : List Int) (acc : Flds), SmallF acc → SmallF (copyM F nos acc)
  | [], acc, ha => ha
  | n :: r, acc, ha => by
    have e : copyM F (n :: r) acc = copyM F r (match getM F n with | none => acc | some s => setM acc n s) := rfl
    rw [e]
    refine copyM_small h r _ ?_
    cases eg : getM F n with
    | none => exact ha
    | some s => exact setM_small ha n (by have := getM_small h n; rw [eg] at this; exact this)
theorem info23s : (Tryz.prog.info? 23).map (·.size) = some 6 := by kernel_rfl
theorem checkR_of {k n : Int} {l : List UInt8} (h : checkR k n 1 l = 0) : rightB k n l = true := by
  cases hr : rightB k n l with
  | true => rfl
  | false =>
    exfalso
    unfold checkR at h
    rw [hr] at h
    cases hm : mayB k n 1 <;> rw [hm] at h <;> exact absurd h (by decide)
theorem getD_snoc (ns : List Int) (z : Int) (j : Nat) : (ns ++ [z]).getD j 0 = if j = ns.length then z else ns.getD j 0 := by
  simp only [List.getD, List.getElem?_append]
  by_cases h : j < ns.length
  · rw [if_pos h, if_neg (by omega)]
  · rw [if_neg h]
    by_cases e : j = ns.length
    · subst e; simp
    · rw [if_neg e, List.getElem?_eq_none (by simp; omega), List.getElem?_eq_none (by omega)]
theorem head_s (s : ByteArray) (h : 0 < s.size) : s.data.toList.head? = some s[0] := by
  have h1 : 0 < s.data.toList.length := by simpa using h
  cases e : s.data.toList with
  | nil => rw [e] at h1; simp at h1
  | cons c r =>
    have : s[0] = s.data.toList[0] := by simp [ByteArray.getElem_eq_getElem_data]
    simp only [e] at this
    rw [this]
    rfl
theorem amountR_range (s : ByteArray) : 0 ≤ (amountR s.data.toList).1 ∧ (amountR s.data.toList).1 < 1000000000000000000 := by
  unfold amountR
  split
  · rename_i h
    have h1 := take_dig h.2.2 s.data.toList.length
    rw [List.take_length] at h1
    have h2 := numL_range _ _ rfl h1
    have h3 : (10 : Int) ^ s.data.toList.length ≤ 10 ^ 18 := by
      have := Nat.pow_le_pow_right (n := 10) (by decide) h.2.1
      exact_mod_cast this
    exact ⟨h2.1, by have := h2.2; show numL s.data.toList < _; omega⟩
  · exact ⟨Int.le_refl _, by decide⟩
theorem ofB_len {l row : List UInt8} {n : Int} (h : ofB l row n = true) : (l.length : Int) = n := (ofB_all h).2
/-- A stated number's text: as long as its form says, a letter ahead or none. -/
theorem tail5_len (k : Nat) (hk : k < tail5.length) {s : ByteArray} (h : checkR tail5[k].2.1 tail5[k].2.2 1 s.data.toList = 0) : ∃ d : Nat, (s.size : Int) - tail5[k].2.2 = d ∧ d ≤ 1 ∧ 1 ≤ s.size ∧ s.size ≤ 17 ∧ d ≤ s.size := by
  have h1 := checkR_of h
  have hs : s.data.toList.length = s.size := by simp
  have h5 : k < 5 := hk
  have hc : k = 0 ∨ k = 1 ∨ k = 2 ∨ k = 3 ∨ k = 4 := by omega
  rcases hc with rfl | rfl | rfl | rfl | rfl
  · have h2 := ofB_len (show ofB s.data.toList tenL 10 = true from h1)
    exact ⟨0, by show (s.size : Int) - 10 = _; omega, by omega, by omega, by omega, by omega⟩
  · have h2 := ofB_len (show ofB s.data.toList tenL 10 = true from h1)
    exact ⟨0, by show (s.size : Int) - 10 = _; omega, by omega, by omega, by omega, by omega⟩
  · have h2 := ofB_len (show ofB s.data.toList tenL 16 = true from h1)
    exact ⟨0, by show (s.size : Int) - 16 = _; omega, by omega, by omega, by omega, by omega⟩
  · have h2 := ofB_len (show ofB s.data.toList tenL 16 = true from h1)
    exact ⟨0, by show (s.size : Int) - 16 = _; omega, by omega, by omega, by omega, by omega⟩
  · have h3 : (match s.data.toList with | [] => false | c :: r => (c == 67 || c == 68) && ofB r tenL 16) = true := h1
    cases hl : s.data.toList with
    | nil => rw [hl] at h3; cases h3
    | cons c r =>
      rw [hl] at h3 hs
      simp only [Bool.and_eq_true] at h3
      have h2 := ofB_len h3.2
      simp only [List.length_cons] at hs
      exact ⟨1, by show (s.size : Int) - 16 = _; omega, by omega, by omega, by omega, by omega⟩
theorem tail5_form (k : Nat) (hk : k < tail5.length) : formF tail5[k].1 0 = some (tail5[k].2.1, tail5[k].2.2) := by
  have h5 : k < 5 := hk
  have hc : k = 0 ∨ k = 1 ∨ k = 2 ∨ k = 3 ∨ k = 4 := by omega
  rcases hc with rfl | rfl | rfl | rfl | rfl <;> rfl
theorem tail5_nos (k : Nat) (hk : k < tail5.length) : ∀ h : 3 + k < readNos.length, readNos[3 + k] = tail5[k].1 := by
  have h5 : k < 5 := hk
  have hc : k = 0 ∨ k = 1 ∨ k = 2 ∨ k = 3 ∨ k = 4 := by omega
  rcases hc with rfl | rfl | rfl | rfl | rfl <;> exact fun _ => rfl
def eightR : Array Value := #[.int .i64 7, .int .i64 11, .int .i64 32, .int .i64 74, .int .i64 76, .int .i64 86, .int .i64 88, .int .i64 97]
theorem eight_at (i : Nat) (h : i < readNos.length) : eightR[i]? = some (.int .i64 readNos[i]) := by
  have h8 : i < 8 := h
  have hc : i = 0 ∨ i = 1 ∨ i = 2 ∨ i = 3 ∨ i = 4 ∨ i = 5 ∨ i = 6 ∨ i = 7 := by omega
  rcases hc with rfl | rfl | rfl | rfl | rfl | rfl | rfl | rfl <;> rfl
set_option maxHeartbeats 2000000 in
set_option maxRecDepth 100000 in
theorem read_any {w : World} {v : Value} {F : Flds} (h : FsAt w v F) (hT : Tabs w) (hS : SmallF F) (ty : Int) :
    Calls Tryz.prog 9 #[.agg #[.int .i64 ty, v]] w fun e w' => e = .returned (.tuple #[totV 0 (readR ty F).1, .int .i64 (readR ty F).2]) ∧ Below w.heap.size w w' := by
  obtain ⟨p, c, rfl⟩ := h.shape
  obtain ⟨B, eB⟩ : ∃ b, w.heap.size = b := ⟨_, rfl⟩
  obtain ⟨w0, e0⟩ : ∃ W, (w.alloc (.cells #[.int .i64 ty, .slice p F.length c] 29)).alloc (.cells #[.int .i64 0, .int .i64 0, .int .i64 0, .int .i64 0, .int .i64 0, .int .i64 0] 23) = W := ⟨_, rfl⟩
  have b0 : Below w.heap.size w w0 := by rw [← e0]; exact ((Below.refl _ _).alloc (Nat.le_refl _) _).alloc (by simp) _
  have s0 : w0.heap.size = B + 2 := by rw [← e0, ← eB]; simp
  have km : w0.heap[B]? = some (.cells #[.int .i64 ty, .slice p F.length c] 29 (0, 0)) := by
    rw [← e0, ← eB, Below.heap_alloc _ _ _ (by simp)]
    exact heap_alloc_last _ _
  have kr : w0.heap[B + 1]? = some (.cells #[.int .i64 0, .int .i64 0, .int .i64 0, .int .i64 0, .int .i64 0, .int .i64 0] 23 (0, 0)) := by
    rw [← e0, ← eB]
    have := heap_alloc_last (w.alloc (.cells #[.int .i64 ty, .slice p F.length c] 29)) (.cells #[.int .i64 0, .int .i64 0, .int .i64 0, .int .i64 0, .int .i64 0, .int .i64 0] 23)
    simpa using this
  have H := Lib.hid h
  have HB0 := Lib.hid b0
  have S0 := Lib.hid s0
  have KR := Lib.hid kr
  have KM := Lib.hid km
  have E0 := Lib.hid e0
  have EB := Lib.hid eB
  have m0 := cells_at km 0
  have m1 := cells_at km 1
  have HSM := Lib.hid hS
  have HT := Lib.hid hT
  clear h b0 s0 km hS hT
  go_enter Tryz.func9, Tryz.ntmps9
  by_cases hty : ty = 500
  · subst hty
    rw [← e0] at m0 m1
    obtain ⟨w1, e1⟩ : ∃ W, w0.alloc (.cells #[.int .i64 7, .int .i64 11, .int .i64 32, .int .i64 74, .int .i64 76, .int .i64 86, .int .i64 88, .int .i64 97] 3) = W := ⟨_, rfl⟩
    have b1 : Below w0.heap.size w0 w1 := by rw [← e1]; exact (Below.refl _ _).alloc (Nat.le_refl _) _
    have s1 : w1.heap.size = B + 3 := by have := S0.out; rw [← e1]; simp; omega
    have k1 : w1.heap[B + 2]? = some (.cells eightR 3 (0, 0)) := by rw [← e1, ← S0.out]; exact heap_alloc_last _ _
    have HB1 := Lib.hid (HB0.out.trans (b1.mono HB0.out.size))
    have HN1 := Lib.hid (show IntsAt w1 (.slice (some ⟨B + 2, 0, none⟩) 8 8) readNos from ⟨B + 2, 0, 8, rfl, fun i hi => by rw [Nat.zero_add]; exact (cells_at k1 i).trans (eight_at i hi)⟩)
    have HC1 := Lib.hid (copied_any (H.out.below HB1.out) HN1.out (by decide) 500 500)
    have S1 := Lib.hid s1
    have KR1 := Lib.hid ((b1.block (B + 1) (by have := S0.out; omega)).trans kr)
    have K1 := Lib.hid k1
    have E1 := Lib.hid e1
    clear eB e0 b1 s1 k1 e1 kr
    go_wp2_with fail
    rw [EB.out, E0.out, E1.out]
    refine HC1.out.mono ?_
    rintro e w2 ⟨v2, rfl, f2, b2⟩
    obtain ⟨px, cx, rfl, _, _⟩ := f2.buf.shape
    obtain ⟨X, eX⟩ : ∃ X, copyM F readNos [] = X := ⟨_, rfl⟩
    rw [eX] at f2 ⊢
    have HX := Lib.hid eX
    have HF2 := Lib.hid f2
    have l1 : B + 2 < w1.heap.size := by have := S1.out; omega
    have HB2 := Lib.hid (HB1.out.trans (b2.mono HB1.out.size))
    have k2 := (b2.block (B + 2) l1).trans K1.out
    have kr2 := (b2.block (B + 1) (by omega)).trans KR1.out
    have hs2 : B + 3 ≤ w2.heap.size := by have := b2.size; have := S1.out; omega
    obtain ⟨w3, e3⟩ : ∃ W, w2.alloc (.cells #[.int .i64 500, .slice px X.length cx] 29) = W := ⟨_, rfl⟩
    have b3 : Below w2.heap.size w2 w3 := by rw [← e3]; exact (Below.refl _ _).alloc (Nat.le_refl _) _
    have k3 : w3.heap[w2.heap.size]? = some (.cells #[.int .i64 500, .slice px X.length cx] 29 (0, 0)) := by rw [← e3]; exact heap_alloc_last _ _
    have x0 := cells_at k3 0
    have x1 := cells_at k3 1
    have kr3 := (b3.block (B + 1) (by omega)).trans kr2
    have kn3 := (b3.block (B + 2) (by omega)).trans k2
    have HF3 := Lib.hid (f2.below b3)
    have HB3 := Lib.hid (HB2.out.trans (b3.mono HB2.out.size))
    have HS2 := Lib.hid hs2
    have s3 : w3.heap.size = w2.heap.size + 1 := by rw [← e3]; simp
    have S3 := Lib.hid s3
    clear b2 f2 l1 k2 kr2 hs2 b3 s3 m0 m1
    by_cases h8 : X.length < 8
    · have HR := Lib.hid (show readR 500 F = ([0, 0, 0, 0, 0], 52) by unfold readR; rw [if_neg (by decide), HX.out, if_pos h8])
      have h8' : (X.length : Int) < 8 := by omega
      have hst := store_all (ty := 23) kr3 info23s rfl #[.int .i64 0, .int .i64 0, .int .i64 0, .int .i64 0, .int .i64 0, .int .i64 0] rfl rfl
      have HK3 := Lib.hid kr3
      rw [← e3] at x0 x1 hst
      have E3 := Lib.hid e3
      clear k3 kr3 kn3 eX e3
      go_wp2_with (refine wpList_store_at rfl 23 (.tmp 2) (.tmp 30) rfl ⟨B + 1, 0, none⟩ rfl _ rfl hst ?_)
      rw [E3.out]
      refine bodyPost_ret (Go.Proofs.YtjndfmpicnkplaaGreatDoorW.PrintWords.results_ct rfl _ _ (B + 1) _ #[.int .i64 0, .int .i64 0, .int .i64 0, .int .i64 0, .int .i64 0, .int .i64 0] (0, 0) _ rfl (setRow_block HK3.out) Tryz.underlying23 rfl info23s) rfl ?_
      exact ⟨by rw [HR.out]; rfl, HB3.out.os, HB3.out.tape, HB3.out.output, by have h9 := HB3.out.size; simpa using h9, fun q hq => (setRow_other _ _ q _ (by have := EB.out; omega)).trans (HB3.out.block q hq)⟩
    · have h8' : ¬ (X.length : Int) < 8 := by omega
      have E3 := Lib.hid e3
      have HK3 := Lib.hid k3
      have HKR3 := Lib.hid kr3
      have HKN3 := Lib.hid kn3
      rw [← e3] at x0 x1
      clear k3 kr3 kn3 eX e3
      obtain ⟨N, eN⟩ : ∃ n, w2.heap.size + 1 = n := ⟨_, rfl⟩
      obtain ⟨xb, exb⟩ : ∃ n, w2.heap.size = n := ⟨_, rfl⟩
      obtain ⟨w4, e4⟩ : ∃ W, w3.alloc (.cells #[.int .i64 0, .int .i64 0, .int .i64 0, .int .i64 0, .int .i64 0, .int .i64 0, .int .i64 0, .int .i64 0] 54) = W := ⟨_, rfl⟩
      have b4 : Below w3.heap.size w3 w4 := by rw [← e4]; exact (Below.refl _ _).alloc (Nat.le_refl _) _
      have hs3 : w3.heap.size = N := by rw [S3.out, eN]
      have k4 : w4.rowIs N 54 8 (fun j => .int .i64 (([] : List Int).getD j 0)) := ⟨#[.int .i64 0, .int .i64 0, .int .i64 0, .int .i64 0, .int .i64 0, .int .i64 0, .int .i64 0, .int .i64 0], by rw [← e4, ← hs3]; exact heap_alloc_last _ _, rfl, fun i hi => by
        have hc : i = 0 ∨ i = 1 ∨ i = 2 ∨ i = 3 ∨ i = 4 ∨ i = 5 ∨ i = 6 ∨ i = 7 := by omega
        rcases hc with rfl | rfl | rfl | rfl | rfl | rfl | rfl | rfl <;> rfl⟩
      have HX4 := Lib.hid (show w4.heap[xb]? = some (.cells #[.int .i64 500, .slice px X.length cx] 29 (0, 0)) from (b4.block xb (by omega)).trans (by rw [← exb]; exact HK3.out))
      have HKR4 := Lib.hid ((b4.block (B + 1) (by have := HS2.out; omega)).trans HKR3.out)
      have HKN4 := Lib.hid ((b4.block (B + 2) (by have := HS2.out; omega)).trans HKN3.out)
      have HB4 := Lib.hid (HB3.out.trans (b4.mono HB3.out.size))
      have HF4 := Lib.hid (HF3.out.below b4)
      have HFL := Lib.hid (fun q (hq : bufBlock (.slice px X.length cx) = some q) => show q < N by have := HF2.out.buf.lt q hq; omega)
      have HNB := Lib.hid (show B + 4 ≤ N ∧ xb < N ∧ B + 3 ≤ xb ∧ N < w4.heap.size by have := HS2.out; refine ⟨by omega, by omega, by omega, by rw [← e4]; simp; omega⟩)
      have HXX := Lib.hid exb
      have HNN := Lib.hid eN
      have E4 := Lib.hid e4
      have K4 := Lib.hid k4
      have HR := Lib.hid (show readR 500 F = match readL X tail5 with | none => ([0, 0, 0, 0, 0], 41) | some l => (l, 0) by unfold readR; rw [if_neg (by decide), HX.out, if_neg h8])
      have HXS := Lib.hid (show SmallF X by rw [← HX.out]; exact copyM_small HSM.out _ _ (fun x hx => by simp at hx))
      have HXL := Lib.hid (show X.length ≤ 8 by rw [← HX.out]; exact copyM_len F readNos [])
      clear b4 e4 k4 hs3 exb eN
      go_wp2_with fail
      rw [HNN.out, HXX.out, E3.out, E4.out]
      clear x0 x1
      go_loopw [34] (fun i wr => Turn [N] w4 wr ∧ ∃ (k : Nat) (ns : List Int), k ≤ 5 ∧ i = .int .i64 k ∧ ns.length = k ∧ wr.rowIs N 54 8 (fun j => .int .i64 (ns.getD j 0)) ∧ readL X tail5 = (readL X (tail5.drop k)).map (ns ++ ·)) (fun i _ => 5 - (intOf i).toNat)
      case atStart => exact ⟨Turn.refl _ _, 0, [], by omega, rfl, rfl, K4.out, by rw [List.drop_zero]; cases readL X tail5 <;> rfl⟩
      case round =>
        obtain ⟨ht, k, ns, hk, rfl, hns, hrow, he⟩ := hrel
        have hN := HNB.out
        have hx4 := (ht.block xb (by omega) (by simp; omega)).trans HX4.out
        have hkr4 := (ht.block (B + 1) (by omega) (by simp; omega)).trans HKR4.out
        have hkn4 := (ht.block (B + 2) (by omega) (by simp; omega)).trans HKN4.out
        have hbw : Below w.heap.size w wr := HB4.out.trans (ht.below HB4.out.size (fun q hq => by
          have h9 : q = N := by simpa using hq
          have := EB.out
          omega))
        have hfx : FBuf w1.heap.size wr (.slice px X.length cx) X := ⟨HF4.out.buf.kept fun q hq => ht.block q (by have := HFL.out q hq; omega) (by have := HFL.out q hq; simp; omega), HF4.out.new⟩
        have HTR := Lib.hid ht
        have HBW := Lib.hid hbw
        have HROW := Lib.hid hrow
        have HE := Lib.hid he
        have HNS := Lib.hid hns
        have HKR := Lib.hid hkr4
        have HTb := Lib.hid (HT.out.below hbw)
        have x0 := cells_at hx4 0
        have x1 := cells_at hx4 1
        by_cases hlt : k < 5
        · have hlt' : (k : Int) < 5 := by omega
          have hkt : k < tail5.length := hlt
          have q0 : wr.cell? ⟨B + 2, 3 + k, none⟩ = some (.int .i64 tail5[k].1) := by
            rw [cells_at hkn4 (3 + k), eight_at (3 + k) (by show 3 + k < 8; omega), tail5_nos k hkt]
          have HFM := Lib.hid (tail5_form k hkt)
          have HLN := Lib.hid (fun (s : ByteArray) => tail5_len k hkt (s := s))
          have hrl : readL X (tail5.drop k) = if checkR tail5[k].2.1 tail5[k].2.2 1 ((getM X tail5[k].1).getD ⟨#[]⟩).data.toList = 0 then (readL X (tail5.drop (k + 1))).map (valOf tail5[k].2.2 ((getM X tail5[k].1).getD ⟨#[]⟩) :: ·) else none := by
            rw [List.drop_eq_getElem_cons hkt]; rfl
          obtain ⟨t5, et5⟩ : ∃ t, tail5[k] = t := ⟨_, rfl⟩
          rw [et5] at q0 HFM HLN hrl
          obtain ⟨nn, kk, sz⟩ := t5
          have HGS := Lib.hid (getM_small HXS.out nn)
          have HG := Lib.hid (get_any (hfx.fs (by have := HXL.out; simp only [maxLen]; omega)) 500 nn)
          obtain ⟨s, es⟩ : ∃ s, (getM X nn).getD ⟨#[]⟩ = s := ⟨_, rfl⟩
          simp only [es] at hrl HGS HG
          have HRL := Lib.hid hrl
          clear hrl et5 hkt es ht hx4 hkr4 hkn4 hrow he hns hfx hN hbw
          go_wp2_with fail
          refine HG.out.mono ?_
          rintro e w5 ⟨rfl, b5⟩
          have hlN : N < wr.heap.size := HROW.out.lt
          have r5 := HROW.out.of_block (b5.block N hlN)
          have x05 := b5.keptCell x0
          have x15 := b5.keptCell x1
          have T5 := Lib.hid (HTR.out.trans (Turn.of_below b5))
          have HB5 := Lib.hid (HBW.out.trans (b5.mono HBW.out.size))
          have HKR5 := Lib.hid ((b5.block (B + 1) (by have := HNB.out; omega)).trans HKR.out)
          have HTb5 := Lib.hid (HTb.out.below b5)
          have HR5 := Lib.hid r5
          have HFP := Lib.hid (form_pub HTb5.out nn)
          rw [HFM.out] at HFP
          clear b5 hlN r5 x0 x1 q0
          go_wp2_with fail
          refine HFP.out.mono ?_
          rintro e w6 ⟨rfl, b6⟩
          unfold formP
          obtain ⟨w7, e7⟩ : ∃ W, w6.alloc (.cells #[.int .i64 kk, .int .i64 sz, .int .i64 1] 56) = W := ⟨_, rfl⟩
          have b7 : Below w6.heap.size w6 w7 := by rw [← e7]; exact (Below.refl _ _).alloc (Nat.le_refl _) _
          have k7 := box_row w6 #[.int .i64 kk, .int .i64 sz, .int .i64 1] 56
          have b57 := b6.trans (b7.mono b6.size)
          have r7 := HR5.out.of_block (b57.block N HR5.out.lt)
          have x07 := b57.keptCell x05
          have x17 := b57.keptCell x15
          have T7 := Lib.hid (T5.out.trans (Turn.of_below b57))
          have HB7 := Lib.hid (HB5.out.trans (b57.mono HB5.out.size))
          have HKR7 := Lib.hid ((b57.block (B + 1) (by have := HNB.out; have := HR5.out.lt; omega)).trans HKR5.out)
          have HR7 := Lib.hid r7
          have g0 := cells_at k7 0
          have g1 := cells_at k7 1
          have g2 := cells_at k7 2
          have HCK := Lib.hid (check_any kk sz 1 s w7 HGS.out)
          have HK7 := Lib.hid k7
          have E7 := Lib.hid e7
          clear b6 b7 k7 b57 r7 x05 x15 x07 x17 e7
          go_wp2_with fail
          rw [E7.out]
          refine HCK.out.mono ?_
          rintro e w8 ⟨rfl, b8⟩
          have HR8 := Lib.hid (HR7.out.of_block (b8.block N HR7.out.lt))
          have T8 := Lib.hid (T7.out.trans (Turn.of_below b8))
          have HB8 := Lib.hid (HB7.out.trans (b8.mono HB7.out.size))
          have HKR8 := Lib.hid ((b8.block (B + 1) (by have := HNB.out; have := HR7.out.lt; omega)).trans HKR7.out)
          rw [E7.out] at HK7
          have HK8 := Lib.hid ((b8.block w6.heap.size (by rw [← E7.out]; simp)).trans HK7.out)
          clear b8 g0 g1 g2
          obtain ⟨ce, hce⟩ : ∃ ce, checkR kk sz 1 s.data.toList = ce := ⟨_, rfl⟩
          have HLN2 := Lib.hid (HLN.out s)
          simp only [hce] at HRL HLN2 ⊢
          clear hce HLN
          by_cases hz : ce = 0
          · subst hz
            obtain ⟨d, hd, hd1, hs1, hs17, hds⟩ := HLN2.out rfl
            have hdW : wrap64 (d : Int) = d := IntWalk.wrap64_in _ ⟨by omega, by omega⟩
            have hdM : max 0 (d : Int) = d := by omega
            have hds' : (d : Int) ≤ s.size := by omega
            have f1 := cells_at HK8.out 1
            have f0 := cells_at HK8.out 0
            have f2 := cells_at HK8.out 2
            obtain ⟨dg, edg⟩ : ∃ dg, s.extract d s.size = dg := ⟨_, rfl⟩
            have hdgs : dg.size ≤ 17 := by rw [← edg, ByteArray.size_extract]; omega
            have HA := Lib.hid (amount_any dg w8 (by omega))
            have hrg := amountR_range dg
            have hval : valOf sz s = if s.data.toList.head? = some 68 then -(amountR dg.data.toList).1 else (amountR dg.data.toList).1 := by
              unfold valOf
              rw [hd, Int.toNat_natCast, edg]
            obtain ⟨av, eav⟩ : ∃ av, (amountR dg.data.toList).1 = av := ⟨_, rfl⟩
            obtain ⟨ae, eae⟩ : ∃ ae, (amountR dg.data.toList).2 = ae := ⟨_, rfl⟩
            simp only [eav, eae] at HA hrg hval
            have HVAL := Lib.hid hval
            have HRG := Lib.hid hrg
            clear eav eae hval hrg hdgs
            go_wp2_with fail
            refine HA.out.mono ?_
            rintro e w9 ⟨rfl, rfl⟩
            have c8 : w8.cell? ⟨N, k, none⟩ = some (.int .i64 (ns.getD k 0)) := HR8.out.cell (by omega)
            have z8 : w8.frozen? ⟨N, k, none⟩ = false := HR8.out.frozen k
            have HR9 := Lib.hid (HR8.out.set k (.int .i64 av))
            have c9 : (w8.setCell ⟨N, k, none⟩ (.int .i64 av)).cell? ⟨N, k, none⟩ = some (.int .i64 av) := by rw [HR9.out.cell (by omega), if_pos rfl]
            have z9 : (w8.setCell ⟨N, k, none⟩ (.int .i64 av)).frozen? ⟨N, k, none⟩ = false := HR9.out.frozen k
            have hng : wrap64 (-av) = -av := IntWalk.wrap64_in _ ⟨by have := HRG.out; omega, by have := HRG.out; omega⟩
            have hs0 : 0 < s.size := by omega
            have HFIN := Lib.hid (fun (z : Int) (hz : valOf sz s = z) => show readL X tail5 = (readL X (tail5.drop (k + 1))).map ((ns ++ [z]) ++ ·) by
              rw [HE.out, HRL.out, if_pos trivial, hz, Option.map_map]
              congr 1
              funext l
              simp)
            have HHD := Lib.hid (head_s s hs0)
            clear f0 f1 f2 hd hdW hdM hds'
            go_wp2_with fail
            · rename_i hb
              have hv : valOf sz s = -av := by
                rw [HVAL.out, if_pos]
                rw [HHD.out]
                have e2 : ((s[0].toNat : Nat) : Int) = 68 := by simpa using hb
                have e3 : s[0].toNat = 68 := by omega
                rw [UInt8.toNat_inj.1 (e3.trans (show 68 = (68 : UInt8).toNat from rfl))]
              exact ⟨⟨(T8.out.set (.inl (by simp)) k _).set (.inl (by simp)) k _, k + 1, ns ++ [-av], by omega, by go_num, by simp [HNS.out], (HR9.out.set k (.int .i64 (-av))).congr fun j hj => by rw [getD_snoc, HNS.out]; split <;> rfl, HFIN.out _ hv⟩, by simp [intOf]; omega⟩
            · rename_i hb
              have hv : valOf sz s = av := by
                rw [HVAL.out, if_neg]
                rw [HHD.out]
                intro e
                have e2 : s[0] = 68 := by simpa using e
                rw [e2] at hb
                exact absurd hb (by decide)
              exact ⟨⟨T8.out.set (.inl (by simp)) k _, k + 1, ns ++ [av], by omega, by go_num, by simp [HNS.out], HR9.out.congr fun j hj => by rw [getD_snoc, HNS.out]; split <;> rfl, HFIN.out av hv⟩, by simp [intOf]; omega⟩
          · have HRF := Lib.hid (show readR 500 F = ([0, 0, 0, 0, 0], 41) by rw [HR.out, HE.out, HRL.out, if_neg hz]; rfl)
            have hst := store_all (ty := 23) HKR8.out info23s rfl #[.int .i64 0, .int .i64 0, .int .i64 0, .int .i64 0, .int .i64 0, .int .i64 0] rfl rfl
            go_wp2_with (refine wpList_store_at rfl 23 (.tmp 2) (.tmp 54) rfl ⟨B + 1, 0, none⟩ rfl _ rfl hst ?_)
            refine bodyPost_ret (Go.Proofs.YtjndfmpicnkplaaGreatDoorW.PrintWords.results_ct rfl _ _ (B + 1) _ #[.int .i64 0, .int .i64 0, .int .i64 0, .int .i64 0, .int .i64 0, .int .i64 0] (0, 0) _ rfl (setRow_block HKR8.out) Tryz.underlying23 rfl info23s) rfl ?_
            exact ⟨by rw [HRF.out]; rfl, HB8.out.os, HB8.out.tape, HB8.out.output, by have h9 := HB8.out.size; simpa using h9, fun q hq => (setRow_other _ _ q _ (by have := EB.out; omega)).trans (HB8.out.block q hq)⟩
        · obtain rfl : k = 5 := by omega
          obtain ⟨a0, a1, a2, a3, a4, rfl⟩ : ∃ a0 a1 a2 a3 a4, ns = [a0, a1, a2, a3, a4] := by
            match ns, hns with
            | [a0, a1, a2, a3, a4], _ => exact ⟨a0, a1, a2, a3, a4, rfl⟩
          have c0 : wr.cell? ⟨N, 0, none⟩ = some (.int .i64 a0) := hrow.cell (by omega)
          have c1 : wr.cell? ⟨N, 1, none⟩ = some (.int .i64 a1) := hrow.cell (by omega)
          have c2 : wr.cell? ⟨N, 2, none⟩ = some (.int .i64 a2) := hrow.cell (by omega)
          have c3 : wr.cell? ⟨N, 3, none⟩ = some (.int .i64 a3) := hrow.cell (by omega)
          have c4 : wr.cell? ⟨N, 4, none⟩ = some (.int .i64 a4) := hrow.cell (by omega)
          have HRF := Lib.hid (show readR 500 F = ([a0, a1, a2, a3, a4], 0) by rw [HR.out, HE.out]; rfl)
          have hst := store_all (ty := 23) HKR.out info23s rfl #[.int .i64 0, .int .i64 a0, .int .i64 a1, .int .i64 a2, .int .i64 a3, .int .i64 a4] rfl rfl
          clear hfx ht hx4 hkr4 hkn4 hrow he hns hN hbw
          go_wp2_with (refine wpList_store_at rfl 23 (.tmp 2) (.tmp 90) rfl ⟨B + 1, 0, none⟩ rfl _ rfl hst ?_)
          refine bodyPost_ret (Go.Proofs.YtjndfmpicnkplaaGreatDoorW.PrintWords.results_ct rfl _ _ (B + 1) _ #[.int .i64 0, .int .i64 a0, .int .i64 a1, .int .i64 a2, .int .i64 a3, .int .i64 a4] (0, 0) _ rfl (setRow_block HKR.out) Tryz.underlying23 rfl info23s) rfl ?_
          exact ⟨by rw [HRF.out]; rfl, HBW.out.os, HBW.out.tape, HBW.out.output, by have h9 := HBW.out.size; simpa using h9, fun q hq => (setRow_other _ _ q _ (by have := EB.out; omega)).trans (HBW.out.block q hq)⟩
  · have hty' : (decide (ty = 500)) = false := by simpa using hty
    have HR := Lib.hid (show readR ty F = ([0, 0, 0, 0, 0], 51) by unfold readR; rw [if_pos hty])
    have hst := store_all (ty := 23) kr info23s rfl #[.int .i64 0, .int .i64 0, .int .i64 0, .int .i64 0, .int .i64 0, .int .i64 0] rfl rfl
    rw [← e0] at m0 m1 hst
    clear eB e0 kr
    go_wp2_with (refine wpList_store_at rfl 23 (.tmp 2) (.tmp 17) rfl ⟨B + 1, 0, none⟩ rfl _ rfl hst ?_)
    rw [E0.out, EB.out]
    refine bodyPost_ret (Go.Proofs.YtjndfmpicnkplaaGreatDoorW.PrintWords.results_ct rfl _ _ (B + 1) _ #[.int .i64 0, .int .i64 0, .int .i64 0, .int .i64 0, .int .i64 0, .int .i64 0] (0, 0) _ rfl KR.out Tryz.underlying23 rfl info23s) rfl ?_
    exact ⟨by rw [HR.out]; rfl, EB.out ▸ HB0.out⟩
end Go.Proofs.YtjndfmpicnkplaaGreatDoor.msgw
namespace Go.Proofs.YtjndfmpicnkplaaGreatDoor.msgw
open Go.RowKit
open Go.Proofs.YtjndfmpicnkplaaGreatDoor.msgp
open Go.Proofs.YtjndfmpicnkplaaGreatDoor.buf
/-- A total: a member and five numbers. -/
abbrev Tot := Int × Int × Int × Int × Int × Int
def totA (x : Tot) : Value := .agg #[.int .i64 x.1, .int .i64 x.2.1, .int .i64 x.2.2.1, .int .i64 x.2.2.2.1, .int .i64 x.2.2.2.2.1, .int .i64 x.2.2.2.2.2]
/-- A total's cells. -/
def TotIn (w : World) (b o : Nat) (x : Tot) : Prop := w.cell? ⟨b, o, none⟩ = some (.int .i64 x.1) ∧ w.cell? ⟨b, o + 1, none⟩ = some (.int .i64 x.2.1) ∧ w.cell? ⟨b, o + 2, none⟩ = some (.int .i64 x.2.2.1) ∧ w.cell? ⟨b, o + 3, none⟩ = some (.int .i64 x.2.2.2.1) ∧ w.cell? ⟨b, o + 4, none⟩ = some (.int .i64 x.2.2.2.2.1) ∧ w.cell? ⟨b, o + 5, none⟩ = some (.int .i64 x.2.2.2.2.2)
theorem TotIn.below {w w' : World} {b o : Nat} {x : Tot} (h : TotIn w b o x) (hb : Below w.heap.size w w') : TotIn w' b o x :=
  ⟨hb.keptCell h.1, hb.keptCell h.2.1, hb.keptCell h.2.2.1, hb.keptCell h.2.2.2.1, hb.keptCell h.2.2.2.2.1, hb.keptCell h.2.2.2.2.2⟩
/-- Totals in a slice. -/
def TotsAt (w : World) (v : Value) (L : List Tot) : Prop := L.length ≤ maxLen ∧ ∃ p c, v = .slice p L.length c ∧ ∀ i (h : i < L.length), ∃ b o, p = some ⟨b, o, none⟩ ∧ TotIn w b (o + i * 6) L[i]
theorem TotsAt.below {w w' : World} {v : Value} {L : List Tot} (h : TotsAt w v L) (hb : Below w.heap.size w w') : TotsAt w' v L := by
  obtain ⟨h0, p, c, h1, h3⟩ := h
  refine ⟨h0, p, c, h1, fun i hi => ?_⟩
  obtain ⟨b, o, h4, h5⟩ := h3 i hi
  exact ⟨b, o, h4, h5.below hb⟩
theorem TotsAt.shape {w : World} {v : Value} {L : List Tot} (h : TotsAt w v L) : ∃ p c, v = .slice p L.length c := by
  obtain ⟨_, p, c, h1, _⟩ := h
  exact ⟨p, c, h1⟩
theorem TotsAt.get {w : World} {p : Option Addr} {n c : Nat} {L : List Tot} (h : TotsAt w (.slice p n c) L) : ∀ i (h : i < L.length), ∃ b o, p = some ⟨b, o, none⟩ ∧ TotIn w b (o + i * 6) L[i] := by
  obtain ⟨_, p', c', h1, h3⟩ := h
  simp only [Value.slice.injEq] at h1
  obtain ⟨rfl, _, _⟩ := h1
  exact h3
/-- Which total is a member's. -/
def totAt (L : List Tot) (m : Int) : Nat := L.findIdx fun x => decide (x.1 = m)
theorem clos_tot {w : World} {bn : Nat} {m : Int} (hb : w.cell? ⟨bn, 0, none⟩ = some (.int .i64 m)) (x : Tot) :
    Calls Tryz.prog 29 #[totA x, .pointer (some ⟨bn, 0, none⟩)] w fun e w' => e = .returned (.bool (decide (x.1 = m))) ∧ Below w.heap.size w w' := by
  obtain ⟨x0, x1, x2, x3, x4, x5⟩ := x
  have hb2 := ((Below.refl w.heap.size w).alloc (Nat.le_refl _) (.cells #[.int .i64 x0, .int .i64 x1, .int .i64 x2, .int .i64 x3, .int .i64 x4, .int .i64 x5] 23)).keptCell hb
  have HB := Lib.hid ((Below.refl w.heap.size w).alloc (Nat.le_refl _) (.cells #[.int .i64 x0, .int .i64 x1, .int .i64 x2, .int .i64 x3, .int .i64 x4, .int .i64 x5] 23))
  clear hb
  unfold totA
  go_enter Tryz.func29, Tryz.ntmps29
  go_wp2_with fail
  go_ret
  exact ⟨by first | rfl | simp, HB.out⟩
theorem index_tot {w : World} {bn : Nat} {m : Int} {v : Value} {L : List Tot} (hb : w.cell? ⟨bn, 0, none⟩ = some (.int .i64 m)) (hT : TotsAt w v L) :
    Calls Tryz.prog 28 #[v, .func (.func 29) #[] #[.pointer (some ⟨bn, 0, none⟩)]] w fun e w' => e = .returned (.int .i64 (if totAt L m < L.length then (totAt L m : Nat) else -1)) ∧ Below w.heap.size w w' := by
  obtain ⟨p, c, rfl⟩ := hT.shape
  have hl := hT.1
  simp only [maxLen] at hl
  obtain ⟨R, eR⟩ : ∃ R : Int, (if totAt L m < L.length then ((totAt L m : Nat) : Int) else -1) = R := ⟨_, rfl⟩
  rw [eR]
  have HR := Lib.hid eR
  have HT := Lib.hid hT
  have HN := Lib.hid hb
  clear hT hb eR
  go_enter Tryz.func28, Tryz.ntmps28
  go_wp2_with fail
  go_loopw [8] (fun i wr => Below w.heap.size w wr ∧ ∃ k : Nat, k ≤ L.length ∧ i = .int .i64 k ∧ ∀ j (hj : j < L.length), j < k → (fun x : Tot => decide (x.1 = m)) L[j] = false) (fun i _ => L.length - (intOf i).toNat)
  case atStart => exact ⟨Below.refl _ _, 0, by omega, rfl, fun j hj h => by omega⟩
  case round =>
    obtain ⟨hbw, k, hk, rfl, he⟩ := hrel
    by_cases hlt : k < L.length
    · have hlt' : (k : Int) < L.length := by omega
      obtain ⟨b, o, rfl, q0, q1, q2, q3, q4, q5⟩ := (HT.out.below hbw).get k hlt
      obtain ⟨x, ex⟩ : ∃ x, L[k] = x := ⟨_, rfl⟩
      rw [ex] at q0 q1 q2 q3 q4 q5
      obtain ⟨pb, hpb⟩ : ∃ pb, decide (x.1 = m) = pb := ⟨_, rfl⟩
      have HC := Lib.hid (clos_tot (hbw.keptCell HN.out) x)
      rw [hpb] at HC
      have hpk : (fun x : Tot => decide (x.1 = m)) L[k] = pb := by rw [ex]; exact hpb
      have HB := Lib.hid hbw
      have HLT := Lib.hid hlt
      cases pb with
      | true =>
        have HI := Lib.hid (show totAt L m = k from (List.findIdx_eq hlt).2 ⟨hpk, fun j hj => he j (by omega) hj⟩)
        obtain ⟨x0, x1, x2, x3, x4, x5⟩ := x
        clear he hpk hpb hbw ex
        go_wp2_with fail
        refine HC.out.mono ?_
        rintro e w2 ⟨rfl, b2⟩
        have HB2 := Lib.hid (HB.out.trans (b2.mono HB.out.size))
        clear b2
        go_wp2_with fail
        go_ret
        exact ⟨by rw [← HR.out, HI.out, if_pos HLT.out]; rfl, HB2.out⟩
      | false =>
        have HE2 := Lib.hid (show ∀ j (hj : j < L.length), j < k + 1 → (fun x : Tot => decide (x.1 = m)) L[j] = false from fun j hj hjk => by
          by_cases e : j = k
          · subst e; exact hpk
          · exact he j hj (by omega))
        obtain ⟨x0, x1, x2, x3, x4, x5⟩ := x
        clear he hpk hpb hbw ex
        go_wp2_with fail
        refine HC.out.mono ?_
        rintro e w2 ⟨rfl, b2⟩
        have HB2 := Lib.hid (HB.out.trans (b2.mono HB.out.size))
        clear b2
        go_wp2_with fail
        go_roundw
        case rel => exact ⟨HB2.out, k + 1, by omega, by go_num, HE2.out⟩
        case measure => simp [intOf]; omega
    · obtain rfl : k = L.length := by omega
      have hlt' : ¬ (L.length : Int) < L.length := by omega
      have HI := Lib.hid (show ¬ totAt L m < L.length from fun hlt2 => by
        have h1 := List.findIdx_getElem (p := fun x : Tot => decide (x.1 = m)) (xs := L) (w := hlt2)
        exact Bool.false_ne_true ((he _ hlt2 hlt2).symm.trans h1))
      have HB := Lib.hid hbw
      clear he hbw
      go_wp2_with fail
      go_ret
      exact ⟨by rw [← HR.out, if_neg HI.out]; rfl, HB.out⟩
end Go.Proofs.YtjndfmpicnkplaaGreatDoor.msgw
namespace Go.Proofs.YtjndfmpicnkplaaGreatDoor.msgw
open Go.RowKit
open Go.Proofs.YtjndfmpicnkplaaGreatDoor.msgp
open Go.Proofs.YtjndfmpicnkplaaGreatDoor.buf
open Go.Proofs.YtjndfmpicnkplaaGreatDoor.fieldp
open Go.Proofs.YtjndfmpicnkplaaGreatDoor.fieldw
def totOf (m : Int) (l : List Int) : Tot := (m, l.getD 0 0, l.getD 1 0, l.getD 2 0, l.getD 3 0, l.getD 4 0)
theorem readL_len (x : Flds) : ∀ (ts : List Shp) (l : List Int), readL x ts = some l → l.length = ts.length
  | [], l, h => by simp only [readL, Option.some.injEq] at h; subst h; rfl
  | t :: r, l, h => by
    unfold readL at h
    split at h
    · cases e : readL x r with
      | none => rw [e] at h; cases h
      | some l2 =>
        rw [e] at h
        simp only [Option.map_some, Option.some.injEq] at h
        subst h
        rw [List.length_cons, List.length_cons, readL_len x r l2 e]
    · cases h
theorem readR_len (ty : Int) (F : Flds) : (readR ty F).1.length = 5 := by
  unfold readR
  split
  · rfl
  · split
    · rfl
    · split
      · rfl
      · rename_i l e; exact readL_len _ tail5 l e
theorem totV_eq (m : Int) {l : List Int} (h : l.length = 5) : totV m l = totA (totOf m l) := by
  match l, h with
  | [a, b, c, d, e], _ => rfl
/-- Is a total just what the book says? -/
def hitB (L : List Tot) (t : Tot) : Bool := match L[totAt L t.1]? with
  | none => false
  | some x => decide (x = t)
/-- The code of an answer. -/
def ansOf (ty : Int) (F : Flds) (m : Int) (closed : Bool) (L : List Tot) : ByteArray :=
  if (readR ty F).2 ≠ 0 then ⟨#[51, 48]⟩ else if closed && hitB L (totOf m (readR ty F).1) then ⟨#[48, 48]⟩ else ⟨#[57, 53]⟩
/-- What Answer answers. -/
def answerM (ty : Int) (F : Flds) (m : Int) (closed : Bool) (L : List Tot) : Flds := setM (copyM F [7, 11, 32] []) 39 (ansOf ty F m closed L)
theorem eq_tot (x y : Tot) (w : World) : (binOp .eql 23 (totA x) (totA y)).run Tryz.prog w = .ok (.bool (decide (x = y))) w := by
  obtain ⟨x0, x1, x2, x3, x4, x5⟩ := x
  obtain ⟨y0, y1, y2, y3, y4, y5⟩ := y
  unfold totA
  go_simp
  by_cases h0 : x0 = y0 <;> by_cases h1 : x1 = y1 <;> by_cases h2 : x2 = y2 <;> by_cases h3 : x3 = y3 <;> by_cases h4 : x4 = y4 <;> by_cases h5 : x5 = y5 <;> simp [h0, h1, h2, h3, h4, h5]
set_option maxHeartbeats 2000000 in
set_option maxRecDepth 100000 in
theorem answer_any {w : World} {v vl : Value} {F : Flds} {L : List Tot} (h : FsAt w v F) (hT : Tabs w) (hS : SmallF F) (hL : TotsAt w vl L) (ty m dn : Int) (closed : Bool) :
    Calls Tryz.prog 11 #[.agg #[.int .i64 ty, v], .int .i64 m, .agg #[.int .i64 dn, vl], .bool closed] w fun e w' => ∃ v', e = .returned (.agg #[.int .i64 510, v']) ∧ FBuf w.heap.size w' v' (answerM ty F m closed L) ∧ Below w.heap.size w w' := by
  obtain ⟨p, c, rfl⟩ := h.shape
  obtain ⟨pl, cl, rfl⟩ := hL.shape
  obtain ⟨B, eB⟩ : ∃ b, w.heap.size = b := ⟨_, rfl⟩
  obtain ⟨w0, e0⟩ : ∃ W, (((w.alloc (.cells #[.int .i64 ty, .slice p F.length c] 29)).alloc (.cells #[.int .i64 m] 3)).alloc (.cells #[.int .i64 dn, .slice pl L.length cl] 37)).alloc (.cells #[.int .i64 0, .slice none 0 0] 29) = W := ⟨_, rfl⟩
  have b0 : Below w.heap.size w w0 := by rw [← e0]; exact ((((Below.refl _ _).alloc (Nat.le_refl _) _).alloc (by simp) _).alloc (by simp <;> omega) _).alloc (by simp <;> omega) _
  have s0 : w0.heap.size = B + 4 := by rw [← e0, ← eB]; simp
  have km : w0.heap[B]? = some (.cells #[.int .i64 ty, .slice p F.length c] 29 (0, 0)) := by
    rw [← e0, ← eB, Below.heap_alloc _ _ _ (by simp <;> omega), Below.heap_alloc _ _ _ (by simp <;> omega), Below.heap_alloc _ _ _ (by simp)]
    exact heap_alloc_last _ _
  have kb : w0.heap[B + 1]? = some (.cells #[.int .i64 m] 3 (0, 0)) := by
    rw [← e0, ← eB, Below.heap_alloc _ _ _ (by simp <;> omega), Below.heap_alloc _ _ _ (by simp)]
    have := heap_alloc_last (w.alloc (.cells #[.int .i64 ty, .slice p F.length c] 29)) (.cells #[.int .i64 m] 3)
    simpa using this
  have kd : w0.heap[B + 2]? = some (.cells #[.int .i64 dn, .slice pl L.length cl] 37 (0, 0)) := by
    rw [← e0, ← eB, Below.heap_alloc _ _ _ (by simp)]
    have := heap_alloc_last ((w.alloc (.cells #[.int .i64 ty, .slice p F.length c] 29)).alloc (.cells #[.int .i64 m] 3)) (.cells #[.int .i64 dn, .slice pl L.length cl] 37)
    simpa using this
  have kr : w0.heap[B + 3]? = some (.cells #[.int .i64 0, .slice none 0 0] 29 (0, 0)) := by
    rw [← e0, ← eB]
    have := heap_alloc_last (((w.alloc (.cells #[.int .i64 ty, .slice p F.length c] 29)).alloc (.cells #[.int .i64 m] 3)).alloc (.cells #[.int .i64 dn, .slice pl L.length cl] 37)) (.cells #[.int .i64 0, .slice none 0 0] 29)
    simpa using this
  obtain ⟨w1, e1⟩ : ∃ W, w0.alloc (.cells #[.int .i64 7, .int .i64 11, .int .i64 32] 3) = W := ⟨_, rfl⟩
  have b1 : Below w0.heap.size w0 w1 := by rw [← e1]; exact (Below.refl _ _).alloc (Nat.le_refl _) _
  have k1 : w1.heap[B + 4]? = some (.cells #[.int .i64 7, .int .i64 11, .int .i64 32] 3 (0, 0)) := by rw [← e1, ← s0]; exact heap_alloc_last _ _
  have hB1 := b0.trans (b1.mono b0.size)
  have HC1 := Lib.hid (copied_any (nos := [7, 11, 32]) (h.below hB1) ⟨B + 4, 0, 3, rfl, fun i hi => by
    rw [Nat.zero_add, cells_at k1 i]
    have h3 : i < 3 := hi
    have hc : i = 0 ∨ i = 1 ∨ i = 2 := by omega
    rcases hc with rfl | rfl | rfl <;> rfl⟩ (by decide) 510 ty)
  have HB1 := Lib.hid hB1
  have HM := Lib.hid ((b1.block B (by omega)).trans km)
  have HBm := Lib.hid ((b1.block (B + 1) (by omega)).trans kb)
  have HD := Lib.hid ((b1.block (B + 2) (by omega)).trans kd)
  have HR := Lib.hid ((b1.block (B + 3) (by omega)).trans kr)
  have S1 := Lib.hid (show w1.heap.size = B + 5 by rw [← e1]; simp; omega)
  have E0 := Lib.hid e0
  have E1 := Lib.hid e1
  have EB := Lib.hid eB
  have H := Lib.hid h
  have HT := Lib.hid hT
  have HS := Lib.hid hS
  have HL := Lib.hid hL
  have m0 := cells_at km 0
  have m1 := cells_at km 1
  rw [← e0] at m0 m1
  clear h hT hS hL b0 s0 km kb kd kr b1 k1 hB1 e1 e0
  go_enter Tryz.func11, Tryz.ntmps11
  go_wp2_with fail
  rw [E0.out, E1.out]
  refine HC1.out.mono ?_
  rintro e w2 ⟨v2, rfl, f2, b2⟩
  obtain ⟨po, co, rfl, _, _⟩ := f2.buf.shape
  obtain ⟨X, eX⟩ : ∃ X, copyM F [7, 11, 32] [] = X := ⟨_, rfl⟩
  rw [eX] at f2 ⊢
  have HX := Lib.hid eX
  have hB2 := HB1.out.trans (b2.mono HB1.out.size)
  obtain ⟨w3, e3⟩ : ∃ W, w2.alloc (.cells #[.int .i64 510, .slice po X.length co] 29) = W := ⟨_, rfl⟩
  have b3 : Below w2.heap.size w2 w3 := by rw [← e3]; exact (Below.refl _ _).alloc (Nat.le_refl _) _
  have b23 := b2.trans (b3.mono b2.size)
  have k3 : w3.heap[w2.heap.size]? = some (.cells #[.int .i64 510, .slice po X.length co] 29 (0, 0)) := by rw [← e3]; exact heap_alloc_last _ _
  have hB3 := hB2.trans (b3.mono hB2.size)
  have hs2 := b2.size
  have HM3 := Lib.hid ((b23.block B (by have := S1.out; omega)).trans HM.out)
  have HBm3 := Lib.hid ((b23.block (B + 1) (by have := S1.out; omega)).trans HBm.out)
  have HD3 := Lib.hid ((b23.block (B + 2) (by have := S1.out; omega)).trans HD.out)
  have HR3 := Lib.hid ((b23.block (B + 3) (by have := S1.out; omega)).trans HR.out)
  have m03 : w3.cell? ⟨B, 0, none⟩ = some (.int .i64 ty) := cells_at HM3.out 0
  have m13 : w3.cell? ⟨B, 1, none⟩ = some (.slice p F.length c) := cells_at HM3.out 1
  have HRD := Lib.hid (read_any (H.out.below hB3) (HT.out.below hB3) HS.out ty)
  have HB3 := Lib.hid hB3
  have HF3 := Lib.hid (f2.below b3)
  have K3 := Lib.hid k3
  have S3 := Lib.hid (show w3.heap.size = w2.heap.size + 1 by rw [← e3]; simp)
  have S2 := Lib.hid (show B + 5 ≤ w2.heap.size by have := S1.out; omega)
  have E3 := Lib.hid e3
  rw [← e3] at m03 m13
  clear eX hB2 b3 b23 k3 hB3 hs2 f2 b2 e3 m0 m1 eB
  go_wp2_with fail
  rw [E3.out]
  refine HRD.out.mono ?_
  rintro e w4 ⟨rfl, b4⟩
  obtain ⟨rl, erl⟩ : ∃ l, (readR ty F).1 = l := ⟨_, rfl⟩
  obtain ⟨re, ere⟩ : ∃ l, (readR ty F).2 = l := ⟨_, rfl⟩
  have hrl := readR_len ty F
  rw [erl] at hrl
  rw [erl, ere, totV_eq 0 hrl]
  have HRL := Lib.hid erl
  have HRE := Lib.hid ere
  obtain ⟨a0, a1, a2, a3, a4, rfl⟩ : ∃ a0 a1 a2 a3 a4, rl = [a0, a1, a2, a3, a4] := by
    match rl, hrl with
    | [a0, a1, a2, a3, a4], _ => exact ⟨a0, a1, a2, a3, a4, rfl⟩
  rw [show totA (totOf 0 [a0, a1, a2, a3, a4]) = .agg #[.int .i64 0, .int .i64 a0, .int .i64 a1, .int .i64 a2, .int .i64 a3, .int .i64 a4] from rfl]
  obtain ⟨T, eT⟩ : ∃ n, w4.heap.size = n := ⟨_, rfl⟩
  obtain ⟨w6, e6⟩ : ∃ W, w4.alloc (.cells #[.int .i64 m, .int .i64 a0, .int .i64 a1, .int .i64 a2, .int .i64 a3, .int .i64 a4] 23) = W := ⟨_, rfl⟩
  have b6 : Below w4.heap.size w4 w6 := by rw [← e6]; exact (Below.refl _ _).alloc (Nat.le_refl _) _
  have k6 : w6.heap[T]? = some (.cells #[.int .i64 m, .int .i64 a0, .int .i64 a1, .int .i64 a2, .int .i64 a3, .int .i64 a4] 23 (0, 0)) := by rw [← e6, ← eT]; exact heap_alloc_last _ _
  have b36 := b4.trans (b6.mono b4.size)
  have hs4 := b4.size
  have HD6 := Lib.hid ((b36.block (B + 2) (by have := S3.out; have := S2.out; omega)).trans HD3.out)
  have HR6 := Lib.hid ((b36.block (B + 3) (by have := S3.out; have := S2.out; omega)).trans HR3.out)
  have HBm6 := Lib.hid ((b36.block (B + 1) (by have := S3.out; have := S2.out; omega)).trans HBm3.out)
  have K36 := Lib.hid ((b36.block w2.heap.size (by have := S3.out; omega)).trans K3.out)
  have HF6 := Lib.hid (HF3.out.below b36)
  have HB6 := Lib.hid (HB3.out.trans (b36.mono HB3.out.size))
  have mb5 : w4.cell? ⟨B + 1, 0, none⟩ = some (.int .i64 m) := b4.keptCell (cells_at HBm3.out 0)
  have mb6 := (b6.keptCell mb5)
  have d0 : w6.cell? ⟨B + 2, 0, none⟩ = some (.int .i64 dn) := cells_at HD6.out 0
  have d1 : w6.cell? ⟨B + 2, 1, none⟩ = some (.slice pl L.length cl) := cells_at HD6.out 1
  have HTT := Lib.hid (show w2.heap.size + 1 ≤ T ∧ T < w6.heap.size from ⟨by have := S3.out; omega, by rw [← e6, ← eT]; simp⟩)
  have HIX := Lib.hid (index_tot (cells_at HBm6.out 0) (HL.out.below HB6.out))
  have K6 := Lib.hid k6
  have E6 := Lib.hid e6
  have ET := Lib.hid eT
  have mb55 := ((Below.refl w4.heap.size w4).alloc (Nat.le_refl _) (.cells #[.int .i64 0, .int .i64 a0, .int .i64 a1, .int .i64 a2, .int .i64 a3, .int .i64 a4] 23)).keptCell mb5
  rw [← e6] at d0 d1 mb6
  clear b4 b6 k6 b36 hs4 e6 eT erl ere hrl
  go_wp2_with fail
  rw [E6.out]
  refine HIX.out.mono ?_
  rintro e w7 ⟨rfl, b7⟩
  obtain ⟨K, eK⟩ : ∃ z : Int, (if totAt L m < L.length then ((totAt L m : Nat) : Int) else -1) = z := ⟨_, rfl⟩
  rw [eK]
  have HK := Lib.hid eK
  clear eK
  have hT6 := HTT.out
  have HXL := Lib.hid (show X.length ≤ 3 by rw [← HX.out]; exact copyM_len F [7, 11, 32] [])
  have OW := Lib.hid ((b7.block w2.heap.size (by omega)).trans K36.out)
  have HRW := Lib.hid ((b7.block (B + 3) (by have := S2.out; omega)).trans HR6.out)
  have HDW := Lib.hid ((b7.block (B + 2) (by have := S2.out; omega)).trans HD6.out)
  have KTW := Lib.hid ((b7.block T (by omega)).trans K6.out)
  have HFW := Lib.hid (HF6.out.below b7)
  have HBW := Lib.hid (HB6.out.trans (b7.mono HB6.out.size))
  have HSW := Lib.hid (show w2.heap.size + 1 ≤ w7.heap.size by have := b7.size; omega)
  clear b7 hT6 d0 d1 mb5 mb6 mb55
  by_cases hre : re = 0
  · subst hre
    have HHIT := Lib.hid (show ansOf ty F m closed L = if closed && hitB L (totOf m (readR ty F).1) then ⟨#[48, 48]⟩ else ⟨#[57, 53]⟩ by unfold ansOf; rw [HRE.out, if_neg (by decide)])
    have dw0 : w7.cell? ⟨B + 2, 1, none⟩ = some (.slice pl L.length cl) := cells_at HDW.out 1
    cases closed with
    | false =>
      have HANS := Lib.hid (show ansOf ty F m false L = ⟨#[57, 53]⟩ by rw [HHIT.out]; rfl)
      go_wp2_with fail
      go_quiet (fail)
      obtain ⟨w9, e9⟩ : ∃ W, w7.drewN nq = W := ⟨_, rfl⟩
      rw [e9]
      have bq : Below w7.heap.size w7 w9 := by rw [← e9]; exact drewN_base _ _
      have OW9 := Lib.hid ((bq.block w2.heap.size (by have := HSW.out; omega)).trans OW.out)
      have HRW9 := Lib.hid ((bq.block (B + 3) (by have := S2.out; have := HSW.out; omega)).trans HRW.out)
      have HFW9 := Lib.hid (HFW.out.below bq)
      have HBW9 := Lib.hid (HBW.out.trans (bq.mono HBW.out.size))
      have HSW9 := Lib.hid (Nat.le_trans HSW.out bq.size)
      clear bq e9
      clear dw0
      have o0 : w9.cell? ⟨w2.heap.size, 0, none⟩ = some (.int .i64 510) := cells_at OW9.out 0
      have o1 : w9.cell? ⟨w2.heap.size, 1, none⟩ = some (.slice po X.length co) := cells_at OW9.out 1
      have HSET := Lib.hid (set_any (HFW9.out.fs (by have := HXL.out; simp only [maxLen]; omega)) (by have := HXL.out; omega) 510 39 ⟨#[57, 53]⟩)
      have HAN := Lib.hid (show answerM ty F m false L = setM X 39 ⟨#[57, 53]⟩ by unfold answerM; rw [HX.out, HANS.out])
      obtain ⟨Y, eY⟩ : ∃ Y, setM X 39 ⟨#[57, 53]⟩ = Y := ⟨_, rfl⟩
      rw [eY] at HSET HAN
      clear eY
      go_wp2_with fail
      refine HSET.out.mono ?_
      rintro e w8 ⟨v8, rfl, f8, b8⟩
      obtain ⟨p8, c8, rfl, _, _⟩ := f8.buf.shape
      have hw7 : w2.heap.size + 1 ≤ w9.heap.size := HSW9.out
      have kr8 := (b8.block (B + 3) (by have := S2.out; omega)).trans HRW9.out
      have hst := store_all (ty := 29) kr8 info32s rfl #[.int .i64 510, .slice p8 Y.length c8] rfl rfl
      have HRES := Lib.hid (show FBuf w.heap.size (w8.setRow (B + 3) #[.int .i64 510, .slice p8 Y.length c8]) (.slice p8 Y.length c8) (answerM ty F m false L) ∧ Below w.heap.size w (w8.setRow (B + 3) #[.int .i64 510, .slice p8 Y.length c8]) by
        rw [HAN.out]
        have hb8 := HBW9.out.trans (b8.mono HBW9.out.size)
        refine ⟨⟨f8.buf.kept fun q hq => setRow_other _ _ q _ (by have := f8.new q hq; have := S2.out; omega), fun q hq => by have := f8.new q hq; have := S2.out; have := EB.out; omega⟩, hb8.os, hb8.tape, hb8.output, by have h9 := hb8.size; simpa using h9, fun q hq => (setRow_other _ _ q _ (by have := EB.out; omega)).trans (hb8.block q hq)⟩)
      have KR8 := Lib.hid kr8
      clear f8 b8 kr8 hw7 o0 o1
      go_wp2_with (refine wpList_store_at rfl 29 (.tmp 8) (.tmp 48) rfl ⟨B + 3, 0, none⟩ rfl _ rfl hst ?_)
      refine bodyPost_ret (results_cell_row rfl _ _ (B + 3) _ #[.int .i64 510, .slice p8 Y.length c8] (0, 0) _ rfl (setRow_block KR8.out) Tryz.underlying29 rfl info32s) rfl ?_
      exact ⟨_, rfl, HRES.out⟩
    | true =>
      by_cases hlt : totAt L m < L.length
      · have hK : K = (totAt L m : Nat) := by rw [← HK.out, if_pos hlt]
        obtain ⟨j, ej⟩ : ∃ j, totAt L m = j := ⟨_, rfl⟩
        rw [ej] at hlt hK
        subst hK
        obtain ⟨b, o, rfl, q0, q1, q2, q3, q4, q5⟩ := (HL.out.below HBW.out).get j hlt
        obtain ⟨x, ex⟩ : ∃ x, L[j] = x := ⟨_, rfl⟩
        have hhit : hitB L (totOf m (readR ty F).1) = decide (x = (m, a0, a1, a2, a3, a4)) := by
          unfold hitB
          rw [HRL.out, show (totOf m [a0, a1, a2, a3, a4]).1 = m from rfl, ej, List.getElem?_eq_getElem hlt, ex]
          rfl
        rw [ex] at q0 q1 q2 q3 q4 q5
        obtain ⟨hb, ehb⟩ : ∃ hb, decide (x = (m, a0, a1, a2, a3, a4)) = hb := ⟨_, rfl⟩
        have hq := fun W => eq_tot x (m, a0, a1, a2, a3, a4) W
        rw [ehb] at hhit hq
        clear ehb
        obtain ⟨x0, x1, x2, x3, x4, x5⟩ := x
        simp only [totA] at hq
        have t0 : w7.cell? ⟨T, 0, none⟩ = some (.int .i64 m) := cells_at KTW.out 0
        have t1 : w7.cell? ⟨T, 1, none⟩ = some (.int .i64 a0) := cells_at KTW.out 1
        have t2 : w7.cell? ⟨T, 2, none⟩ = some (.int .i64 a1) := cells_at KTW.out 2
        have t3 : w7.cell? ⟨T, 3, none⟩ = some (.int .i64 a2) := cells_at KTW.out 3
        have t4 : w7.cell? ⟨T, 4, none⟩ = some (.int .i64 a3) := cells_at KTW.out 4
        have t5 : w7.cell? ⟨T, 5, none⟩ = some (.int .i64 a4) := cells_at KTW.out 5
        have hj1 : (j : Int) < L.length := by omega
        have hj0 : decide ((0 : Int) ≤ j) = true := by simp
        have HHIT2 := Lib.hid hhit
        have HLT := Lib.hid hlt
        clear ej ex hhit hlt
        go_wp2_with fail
        rw [ET.out]
        go_quiet (fail)
        obtain ⟨w9, e9⟩ : ∃ W, w7.drewN nq = W := ⟨_, rfl⟩
        rw [e9]
        have bq : Below w7.heap.size w7 w9 := by rw [← e9]; exact drewN_base _ _
        have OW9 := Lib.hid ((bq.block w2.heap.size (by have := HSW.out; omega)).trans OW.out)
        have HRW9 := Lib.hid ((bq.block (B + 3) (by have := S2.out; have := HSW.out; omega)).trans HRW.out)
        have HFW9 := Lib.hid (HFW.out.below bq)
        have HBW9 := Lib.hid (HBW.out.trans (bq.mono HBW.out.size))
        have HSW9 := Lib.hid (Nat.le_trans HSW.out bq.size)
        clear bq e9
        clear dw0 t0 t1 t2 t3 t4 t5 q0 q1 q2 q3 q4 q5 hq
        cases hb with
        | false =>
          have HANS := Lib.hid (show ansOf ty F m true L = ⟨#[57, 53]⟩ by rw [HHIT.out, HHIT2.out]; rfl)
          have o0 : w9.cell? ⟨w2.heap.size, 0, none⟩ = some (.int .i64 510) := cells_at OW9.out 0
          have o1 : w9.cell? ⟨w2.heap.size, 1, none⟩ = some (.slice po X.length co) := cells_at OW9.out 1
          have HSET := Lib.hid (set_any (HFW9.out.fs (by have := HXL.out; simp only [maxLen]; omega)) (by have := HXL.out; omega) 510 39 ⟨#[57, 53]⟩)
          have HAN := Lib.hid (show answerM ty F m true L = setM X 39 ⟨#[57, 53]⟩ by unfold answerM; rw [HX.out, HANS.out])
          obtain ⟨Y, eY⟩ : ∃ Y, setM X 39 ⟨#[57, 53]⟩ = Y := ⟨_, rfl⟩
          rw [eY] at HSET HAN
          clear eY
          go_wp2_with fail
          refine HSET.out.mono ?_
          rintro e w8 ⟨v8, rfl, f8, b8⟩
          obtain ⟨p8, c8, rfl, _, _⟩ := f8.buf.shape
          have hw7 : w2.heap.size + 1 ≤ w9.heap.size := HSW9.out
          have kr8 := (b8.block (B + 3) (by have := S2.out; omega)).trans HRW9.out
          have hst := store_all (ty := 29) kr8 info32s rfl #[.int .i64 510, .slice p8 Y.length c8] rfl rfl
          have HRES := Lib.hid (show FBuf w.heap.size (w8.setRow (B + 3) #[.int .i64 510, .slice p8 Y.length c8]) (.slice p8 Y.length c8) (answerM ty F m true L) ∧ Below w.heap.size w (w8.setRow (B + 3) #[.int .i64 510, .slice p8 Y.length c8]) by
            rw [HAN.out]
            have hb8 := HBW9.out.trans (b8.mono HBW9.out.size)
            refine ⟨⟨f8.buf.kept fun q hq => setRow_other _ _ q _ (by have := f8.new q hq; have := S2.out; omega), fun q hq => by have := f8.new q hq; have := S2.out; have := EB.out; omega⟩, hb8.os, hb8.tape, hb8.output, by have h9 := hb8.size; simpa using h9, fun q hq => (setRow_other _ _ q _ (by have := EB.out; omega)).trans (hb8.block q hq)⟩)
          have KR8 := Lib.hid kr8
          clear f8 b8 kr8 hw7 o0 o1
          go_wp2_with (refine wpList_store_at rfl 29 (.tmp 8) (.tmp 48) rfl ⟨B + 3, 0, none⟩ rfl _ rfl hst ?_)
          refine bodyPost_ret (results_cell_row rfl _ _ (B + 3) _ #[.int .i64 510, .slice p8 Y.length c8] (0, 0) _ rfl (setRow_block KR8.out) Tryz.underlying29 rfl info32s) rfl ?_
          exact ⟨_, rfl, HRES.out⟩
        | true =>
          have HANS := Lib.hid (show ansOf ty F m true L = ⟨#[48, 48]⟩ by rw [HHIT.out, HHIT2.out]; rfl)
          have o0 : w9.cell? ⟨w2.heap.size, 0, none⟩ = some (.int .i64 510) := cells_at OW9.out 0
          have o1 : w9.cell? ⟨w2.heap.size, 1, none⟩ = some (.slice po X.length co) := cells_at OW9.out 1
          have HSET := Lib.hid (set_any (HFW9.out.fs (by have := HXL.out; simp only [maxLen]; omega)) (by have := HXL.out; omega) 510 39 ⟨#[48, 48]⟩)
          have HAN := Lib.hid (show answerM ty F m true L = setM X 39 ⟨#[48, 48]⟩ by unfold answerM; rw [HX.out, HANS.out])
          obtain ⟨Y, eY⟩ : ∃ Y, setM X 39 ⟨#[48, 48]⟩ = Y := ⟨_, rfl⟩
          rw [eY] at HSET HAN
          clear eY
          go_wp2_with fail
          refine HSET.out.mono ?_
          rintro e w8 ⟨v8, rfl, f8, b8⟩
          obtain ⟨p8, c8, rfl, _, _⟩ := f8.buf.shape
          have hw7 : w2.heap.size + 1 ≤ w9.heap.size := HSW9.out
          have kr8 := (b8.block (B + 3) (by have := S2.out; omega)).trans HRW9.out
          have hst := store_all (ty := 29) kr8 info32s rfl #[.int .i64 510, .slice p8 Y.length c8] rfl rfl
          have HRES := Lib.hid (show FBuf w.heap.size (w8.setRow (B + 3) #[.int .i64 510, .slice p8 Y.length c8]) (.slice p8 Y.length c8) (answerM ty F m true L) ∧ Below w.heap.size w (w8.setRow (B + 3) #[.int .i64 510, .slice p8 Y.length c8]) by
            rw [HAN.out]
            have hb8 := HBW9.out.trans (b8.mono HBW9.out.size)
            refine ⟨⟨f8.buf.kept fun q hq => setRow_other _ _ q _ (by have := f8.new q hq; have := S2.out; omega), fun q hq => by have := f8.new q hq; have := S2.out; have := EB.out; omega⟩, hb8.os, hb8.tape, hb8.output, by have h9 := hb8.size; simpa using h9, fun q hq => (setRow_other _ _ q _ (by have := EB.out; omega)).trans (hb8.block q hq)⟩)
          have KR8 := Lib.hid kr8
          clear f8 b8 kr8 hw7 o0 o1
          go_wp2_with (refine wpList_store_at rfl 29 (.tmp 8) (.tmp 48) rfl ⟨B + 3, 0, none⟩ rfl _ rfl hst ?_)
          refine bodyPost_ret (results_cell_row rfl _ _ (B + 3) _ #[.int .i64 510, .slice p8 Y.length c8] (0, 0) _ rfl (setRow_block KR8.out) Tryz.underlying29 rfl info32s) rfl ?_
          exact ⟨_, rfl, HRES.out⟩
      · have hK : K = -1 := by rw [← HK.out, if_neg hlt]
        subst hK
        have HANS := Lib.hid (show ansOf ty F m true L = ⟨#[57, 53]⟩ by
          rw [HHIT.out]
          unfold hitB
          rw [show (totOf m (readR ty F).1).1 = m from rfl, List.getElem?_eq_none (by omega)]
          rfl)
        have hj0 : decide ((0 : Int) ≤ -1) = false := by decide
        go_wp2_with fail
        go_quiet (fail)
        obtain ⟨w9, e9⟩ : ∃ W, w7.drewN nq = W := ⟨_, rfl⟩
        rw [e9]
        have bq : Below w7.heap.size w7 w9 := by rw [← e9]; exact drewN_base _ _
        have OW9 := Lib.hid ((bq.block w2.heap.size (by have := HSW.out; omega)).trans OW.out)
        have HRW9 := Lib.hid ((bq.block (B + 3) (by have := S2.out; have := HSW.out; omega)).trans HRW.out)
        have HFW9 := Lib.hid (HFW.out.below bq)
        have HBW9 := Lib.hid (HBW.out.trans (bq.mono HBW.out.size))
        have HSW9 := Lib.hid (Nat.le_trans HSW.out bq.size)
        clear bq e9
        clear dw0
        have o0 : w9.cell? ⟨w2.heap.size, 0, none⟩ = some (.int .i64 510) := cells_at OW9.out 0
        have o1 : w9.cell? ⟨w2.heap.size, 1, none⟩ = some (.slice po X.length co) := cells_at OW9.out 1
        have HSET := Lib.hid (set_any (HFW9.out.fs (by have := HXL.out; simp only [maxLen]; omega)) (by have := HXL.out; omega) 510 39 ⟨#[57, 53]⟩)
        have HAN := Lib.hid (show answerM ty F m true L = setM X 39 ⟨#[57, 53]⟩ by unfold answerM; rw [HX.out, HANS.out])
        obtain ⟨Y, eY⟩ : ∃ Y, setM X 39 ⟨#[57, 53]⟩ = Y := ⟨_, rfl⟩
        rw [eY] at HSET HAN
        clear eY
        go_wp2_with fail
        refine HSET.out.mono ?_
        rintro e w8 ⟨v8, rfl, f8, b8⟩
        obtain ⟨p8, c8, rfl, _, _⟩ := f8.buf.shape
        have hw7 : w2.heap.size + 1 ≤ w9.heap.size := HSW9.out
        have kr8 := (b8.block (B + 3) (by have := S2.out; omega)).trans HRW9.out
        have hst := store_all (ty := 29) kr8 info32s rfl #[.int .i64 510, .slice p8 Y.length c8] rfl rfl
        have HRES := Lib.hid (show FBuf w.heap.size (w8.setRow (B + 3) #[.int .i64 510, .slice p8 Y.length c8]) (.slice p8 Y.length c8) (answerM ty F m true L) ∧ Below w.heap.size w (w8.setRow (B + 3) #[.int .i64 510, .slice p8 Y.length c8]) by
          rw [HAN.out]
          have hb8 := HBW9.out.trans (b8.mono HBW9.out.size)
          refine ⟨⟨f8.buf.kept fun q hq => setRow_other _ _ q _ (by have := f8.new q hq; have := S2.out; omega), fun q hq => by have := f8.new q hq; have := S2.out; have := EB.out; omega⟩, hb8.os, hb8.tape, hb8.output, by have h9 := hb8.size; simpa using h9, fun q hq => (setRow_other _ _ q _ (by have := EB.out; omega)).trans (hb8.block q hq)⟩)
        have KR8 := Lib.hid kr8
        clear f8 b8 kr8 hw7 o0 o1
        go_wp2_with (refine wpList_store_at rfl 29 (.tmp 8) (.tmp 48) rfl ⟨B + 3, 0, none⟩ rfl _ rfl hst ?_)
        refine bodyPost_ret (results_cell_row rfl _ _ (B + 3) _ #[.int .i64 510, .slice p8 Y.length c8] (0, 0) _ rfl (setRow_block KR8.out) Tryz.underlying29 rfl info32s) rfl ?_
        exact ⟨_, rfl, HRES.out⟩
  · have hre' : (decide (re = 0)) = false := by simpa using hre
    have HANS := Lib.hid (show ansOf ty F m closed L = ⟨#[51, 48]⟩ by unfold ansOf; rw [HRE.out, if_pos hre])
    have o0 : w7.cell? ⟨w2.heap.size, 0, none⟩ = some (.int .i64 510) := cells_at OW.out 0
    have o1 : w7.cell? ⟨w2.heap.size, 1, none⟩ = some (.slice po X.length co) := cells_at OW.out 1
    have HSET := Lib.hid (set_any (HFW.out.fs (by have := HXL.out; simp only [maxLen]; omega)) (by have := HXL.out; omega) 510 39 ⟨#[51, 48]⟩)
    have HAN := Lib.hid (show answerM ty F m closed L = setM X 39 ⟨#[51, 48]⟩ by unfold answerM; rw [HX.out, HANS.out])
    obtain ⟨Y, eY⟩ : ∃ Y, setM X 39 ⟨#[51, 48]⟩ = Y := ⟨_, rfl⟩
    rw [eY] at HSET HAN
    clear eY
    go_wp2_with fail
    refine HSET.out.mono ?_
    rintro e w8 ⟨v8, rfl, f8, b8⟩
    obtain ⟨p8, c8, rfl, _, _⟩ := f8.buf.shape
    have hw7 : w2.heap.size + 1 ≤ w7.heap.size := HSW.out
    have kr8 := (b8.block (B + 3) (by have := S2.out; omega)).trans HRW.out
    have hst := store_all (ty := 29) kr8 info32s rfl #[.int .i64 510, .slice p8 Y.length c8] rfl rfl
    have HRES := Lib.hid (show FBuf w.heap.size (w8.setRow (B + 3) #[.int .i64 510, .slice p8 Y.length c8]) (.slice p8 Y.length c8) (answerM ty F m closed L) ∧ Below w.heap.size w (w8.setRow (B + 3) #[.int .i64 510, .slice p8 Y.length c8]) by
      rw [HAN.out]
      have hb8 := HBW.out.trans (b8.mono HBW.out.size)
      refine ⟨⟨f8.buf.kept fun q hq => setRow_other _ _ q _ (by have := f8.new q hq; have := S2.out; omega), fun q hq => by have := f8.new q hq; have := S2.out; have := EB.out; omega⟩, hb8.os, hb8.tape, hb8.output, by have h9 := hb8.size; simpa using h9, fun q hq => (setRow_other _ _ q _ (by have := EB.out; omega)).trans (hb8.block q hq)⟩)
    have KR8 := Lib.hid kr8
    clear f8 b8 kr8 hw7 o0 o1
    go_wp2_with (refine wpList_store_at rfl 29 (.tmp 8) (.tmp 48) rfl ⟨B + 3, 0, none⟩ rfl _ rfl hst ?_)
    refine bodyPost_ret (results_cell_row rfl _ _ (B + 3) _ #[.int .i64 510, .slice p8 Y.length c8] (0, 0) _ rfl (setRow_block KR8.out) Tryz.underlying29 rfl info32s) rfl ?_
    exact ⟨_, rfl, HRES.out⟩
end Go.Proofs.YtjndfmpicnkplaaGreatDoor.msgw
namespace Go.Proofs.YtjndfmpicnkplaaGreatDoor.msgw
open Go.RowKit
open Go.Proofs.YtjndfmpicnkplaaGreatDoor.msgp
open Go.Proofs.YtjndfmpicnkplaaGreatDoor.buf
open Go.Proofs.YtjndfmpicnkplaaGreatDoor.fieldp
open Go.Proofs.YtjndfmpicnkplaaGreatDoor.fieldw
/-- A number as a letter and digits. -/
def signedR (n size : Int) : ByteArray × Int := if n < 0 then (⟨#[68]⟩ ++ (digitsR (wrap64 (-n)) size).1, (digitsR (wrap64 (-n)) size).2) else (⟨#[67]⟩ ++ (digitsR n size).1, (digitsR n size).2)
theorem digitsR_size (n size : Int) : (digitsR n size).1.size ≤ 18 := by
  unfold digitsR
  split
  · decide
  · split
    · decide
    · rename_i h _
      show (digL n.toNat size.toNat).toArray.size ≤ 18
      rw [List.size_toArray, digL_length]
      omega
theorem signed_any (n size : Int) (w : World) (hr : -9223372036854775808 ≤ n ∧ n ≤ 9223372036854775807) :
    Calls Tryz.prog 16 #[.int .i64 n, .int .i64 size] w fun e w' => e = .returned (.tuple #[.string (signedR n size).1, .int .i64 (signedR n size).2]) ∧ Below w.heap.size w w' := by
  by_cases hn : n < 0
  · have hd : (decide (n < 0)) = true := by simpa using hn
    have hw : -9223372036854775808 ≤ wrap64 (-n) ∧ wrap64 (-n) ≤ 9223372036854775807 := by unfold wrap64; omega
    have HD := Lib.hid (digits_any (wrap64 (-n)) size w hw)
    have hsz := digitsR_size (wrap64 (-n)) size
    obtain ⟨R, eR⟩ : ∃ R, digitsR (wrap64 (-n)) size = R := ⟨_, rfl⟩
    rw [eR] at HD hsz
    have HR := Lib.hid (show signedR n size = (⟨#[68]⟩ ++ R.1, R.2) by unfold signedR; rw [if_pos hn, eR])
    obtain ⟨s, e⟩ := R
    obtain ⟨y, ey⟩ : ∃ y, wrap64 (-n) = y := ⟨_, rfl⟩
    rw [ey] at HD
    clear eR hw hn
    go_enter Tryz.func16, Tryz.ntmps16
    go_wp2_with fail
    refine HD.out.mono ?_
    rintro e w1 ⟨rfl, b1⟩
    have HB := Lib.hid b1
    clear b1
    go_wp2_with fail
    go_ret2
    exact ⟨by rw [HR.out]; rfl, HB.out⟩
  · have hd : (decide (n < 0)) = false := by simpa using hn
    have HD := Lib.hid (digits_any n size w hr)
    have hsz := digitsR_size n size
    obtain ⟨R, eR⟩ : ∃ R, digitsR n size = R := ⟨_, rfl⟩
    rw [eR] at HD hsz
    have HR := Lib.hid (show signedR n size = (⟨#[67]⟩ ++ R.1, R.2) by unfold signedR; rw [if_neg hn, eR])
    obtain ⟨s, e⟩ := R
    clear eR hn
    go_enter Tryz.func16, Tryz.ntmps16
    go_wp2_with fail
    refine HD.out.mono ?_
    rintro e w1 ⟨rfl, b1⟩
    have HB := Lib.hid b1
    clear b1
    go_wp2_with fail
    go_ret2
    exact ⟨by rw [HR.out]; rfl, HB.out⟩
/-- Numbers that are told in digits: number, size, what it is. -/
def digF : List Shp → Flds → Option Flds
  | [], F => some F
  | x :: r, F => if (digitsR x.2.2 x.2.1).2 = 0 then digF r (setM F x.1 (digitsR x.2.2 x.2.1).1) else none
abbrev Five := Int × Int × Int × Int × Int
def items (t : Five) : List Shp := [(74, 10, t.1), (76, 10, t.2.1), (86, 16, t.2.2.1), (88, 16, t.2.2.2.1)]
def head3 (code when stan : ByteArray) : Flds := setM (setM (setM [] 7 when) 11 stan) 32 code
/-- The fields of a statement, before they are checked. -/
def askF (code when stan : ByteArray) (t : Five) : Option Flds := (digF (items t) (head3 code when stan)).bind fun F => if (signedR t.2.2.2.2 16).2 = 0 then some (setM F 97 (signedR t.2.2.2.2 16).1) else none
def okI (n : Int) : Prop := -9223372036854775808 ≤ n ∧ n ≤ 9223372036854775807
/-- What Check says of the fields that Ask makes: what is asked of Check. -/
def CheckAt (F : Flds) : Prop := ∀ (w : World) (v : Value), FsAt w v F → Tabs w → ∃ z : Int, (z = 0 ↔ errF 0 F = none) ∧ Calls Tryz.prog 17 #[.agg #[.int .i64 500, v]] w fun e w' => e = .returned (.int .i64 z) ∧ Below w.heap.size w w'
/-- What Ask answers. -/
def askR (code when stan : ByteArray) (t : Five) : Option Flds := (askF code when stan t).bind fun F => if errF 0 F = none then some F else none
/-- Where Ask stands: the total at B, what is answered at B + 1, the message at B + 2. -/
structure AskSt (w : World) (B : Nat) (R : Array Value) (W : World) (vo : Value) (F : Flds) : Prop where
  bel : Below w.heap.size w W
  eb : w.heap.size = B
  size : B + 3 ≤ W.heap.size
  tot : W.heap[B]? = some (.cells R 23 (0, 0))
  res : W.heap[B + 1]? = some (.cells #[.int .i64 0, .slice none 0 0] 29 (0, 0))
  msg : W.heap[B + 2]? = some (.cells #[.int .i64 500, vo] 29 (0, 0))
  fs : FBuf (B + 3) W vo F
theorem AskSt.below {w W W' : World} {B : Nat} {R : Array Value} {vo : Value} {F : Flds} (h : AskSt w B R W vo F) (b : Below W.heap.size W W') : AskSt w B R W' vo F :=
  ⟨h.bel.trans (b.mono h.bel.size), h.eb, Nat.le_trans h.size b.size, (b.block B (by have := h.size; omega)).trans h.tot, (b.block (B + 1) (by have := h.size; omega)).trans h.res, (b.block (B + 2) (by have := h.size; omega)).trans h.msg, h.fs.below b⟩
theorem AskSt.set {w W W' : World} {B : Nat} {R : Array Value} {vo v' : Value} {F G : Flds} (h : AskSt w B R W vo F) (b : Below W.heap.size W W') (f : FBuf W.heap.size W' v' G) : AskSt w B R (W'.setRow (B + 2) #[.int .i64 500, v']) v' G := by
  have h1 := h.below b
  have hs := h.size
  have hb := h1.eb
  exact ⟨⟨h1.bel.os, h1.bel.tape, h1.bel.output, by have := h1.bel.size; simpa using this, fun q hq => (setRow_other _ _ q _ (by omega)).trans (h1.bel.block q hq)⟩, h1.eb, by have := h1.size; simpa using this,
    (setRow_other _ _ B _ (by omega)).trans h1.tot, (setRow_other _ _ (B + 1) _ (by omega)).trans h1.res, setRow_block h1.msg,
    f.buf.kept fun q hq => setRow_other _ _ q _ (by have := f.new q hq; omega), fun q hq => by have := f.new q hq; omega⟩
theorem AskSt.store {w W : World} {B : Nat} {R : Array Value} {vo : Value} {F : Flds} (h : AskSt w B R W vo F) (p : Option Addr) (n c : Nat) :
    (storeVar 29 ⟨B + 2, 0, none⟩ (.agg #[.int .i64 500, .slice p n c])).run Tryz.prog W = .ok () (W.setRow (B + 2) #[.int .i64 500, .slice p n c]) := by
  obtain ⟨po, co, rfl, _, _⟩ := h.fs.buf.shape
  exact store_all (ty := 29) h.msg info32s rfl #[.int .i64 500, .slice p n c] rfl rfl
theorem AskSt.cells {w W : World} {B : Nat} {R : Array Value} {vo : Value} {F : Flds} (h : AskSt w B R W vo F) : W.cell? ⟨B + 2, 0, none⟩ = some (.int .i64 500) ∧ W.cell? ⟨B + 2, 1, none⟩ = some vo := ⟨cells_at h.msg 0, cells_at h.msg 1⟩
set_option maxHeartbeats 2000000 in
set_option maxRecDepth 100000 in
theorem ask_any {w : World} (hT : Tabs w) (code when stan : ByteArray) (mem : Int) (t : Five) (h0 : okI t.1) (h1 : okI t.2.1) (h2 : okI t.2.2.1) (h3 : okI t.2.2.2.1) (h4 : okI t.2.2.2.2) (hC : ∀ F, askF code when stan t = some F → CheckAt F) :
    Calls Tryz.prog 6 #[.string code, .string when, .string stan, .agg #[.int .i64 mem, .int .i64 t.1, .int .i64 t.2.1, .int .i64 t.2.2.1, .int .i64 t.2.2.2.1, .int .i64 t.2.2.2.2]] w fun e w' =>
      (askR code when stan t = none ∧ e = .returned (.tuple #[.agg #[.int .i64 0, .slice none 0 0], .int .i64 41]) ∧ Below w.heap.size w w') ∨
      ∃ F v, askR code when stan t = some F ∧ e = .returned (.tuple #[.agg #[.int .i64 500, v], .int .i64 0]) ∧ FBuf w.heap.size w' v F ∧ Below w.heap.size w w' := by
  obtain ⟨B, eB⟩ : ∃ b, w.heap.size = b := ⟨_, rfl⟩
  have HAR := Lib.hid (show askR code when stan t = (askF code when stan t).bind fun F => if errF 0 F = none then some F else none from rfl)
  have HAF := Lib.hid (show askF code when stan t = (digF (items t) (head3 code when stan)).bind fun F => if (signedR t.2.2.2.2 16).2 = 0 then some (setM F 97 (signedR t.2.2.2.2 16).1) else none from rfl)
  obtain ⟨IT, eIT⟩ : ∃ l, items t = l := ⟨_, rfl⟩
  have HIT := Lib.hid (show IT = [(74, 10, t.1), (76, 10, t.2.1), (86, 16, t.2.2.1), (88, 16, t.2.2.2.1)] from eIT.symm)
  rw [eIT] at HAF
  obtain ⟨t0, t1, t2, t3, t4⟩ := t
  simp only at HIT HAF h0 h1 h2 h3 h4
  obtain ⟨w0, e0⟩ : ∃ W, ((w.alloc (.cells #[.int .i64 mem, .int .i64 t0, .int .i64 t1, .int .i64 t2, .int .i64 t3, .int .i64 t4] 23)).alloc (.cells #[.int .i64 0, .slice none 0 0] 29)).alloc (.cells #[.int .i64 500, .slice none 0 0] 29) = W := ⟨_, rfl⟩
  have b0 : Below w.heap.size w w0 := by rw [← e0]; exact (((Below.refl _ _).alloc (Nat.le_refl _) _).alloc (by simp) _).alloc (by simp <;> omega) _
  have s0 : w0.heap.size = B + 3 := by rw [← e0, ← eB]; simp
  have kt : w0.heap[B]? = some (.cells #[.int .i64 mem, .int .i64 t0, .int .i64 t1, .int .i64 t2, .int .i64 t3, .int .i64 t4] 23 (0, 0)) := by
    rw [← e0, ← eB, Below.heap_alloc _ _ _ (by simp <;> omega), Below.heap_alloc _ _ _ (by simp)]
    exact heap_alloc_last _ _
  have kr : w0.heap[B + 1]? = some (.cells #[.int .i64 0, .slice none 0 0] 29 (0, 0)) := by
    rw [← e0, ← eB, Below.heap_alloc _ _ _ (by simp)]
    have := heap_alloc_last (w.alloc (.cells #[.int .i64 mem, .int .i64 t0, .int .i64 t1, .int .i64 t2, .int .i64 t3, .int .i64 t4] 23)) (.cells #[.int .i64 0, .slice none 0 0] 29)
    simpa using this
  have ko : w0.heap[B + 2]? = some (.cells #[.int .i64 500, .slice none 0 0] 29 (0, 0)) := by
    rw [← e0, ← eB]
    have := heap_alloc_last ((w.alloc (.cells #[.int .i64 mem, .int .i64 t0, .int .i64 t1, .int .i64 t2, .int .i64 t3, .int .i64 t4] 23)).alloc (.cells #[.int .i64 0, .slice none 0 0] 29)) (.cells #[.int .i64 500, .slice none 0 0] 29)
    simpa using this
  have HB0 := Lib.hid b0
  have S0 := Lib.hid s0
  have KT := Lib.hid kt
  have KR := Lib.hid kr
  have KO := Lib.hid ko
  have E0 := Lib.hid e0
  have EB := Lib.hid eB
  have HT := Lib.hid hT
  have HI := Lib.hid (show okI t0 ∧ okI t1 ∧ okI t2 ∧ okI t3 ∧ okI t4 from ⟨h0, h1, h2, h3, h4⟩)
  have HC := Lib.hid hC
  have A0 := Lib.hid (show AskSt w B #[.int .i64 mem, .int .i64 t0, .int .i64 t1, .int .i64 t2, .int .i64 t3, .int .i64 t4] w0 (.slice none 0 0) [] from ⟨b0, eB, by omega, kt, kr, ko, ⟨rfl, .inl ⟨rfl, .inl rfl⟩⟩, fun g hg => by simp [bufBlock] at hg⟩)
  have HS1 := Lib.hid (set_any (w := w0) (v := .slice none 0 0) (F := []) ⟨by decide, none, 0, rfl, Nat.le_refl _, fun i hi => by simp at hi⟩ (by decide) 500 7 when)
  clear b0 s0 kt kr ko e0 eB hT h0 h1 h2 h3 h4 hC eIT
  go_enter Tryz.func6, Tryz.ntmps6
  go_wp2_with fail
  rw [E0.out]
  refine HS1.out.mono ?_
  rintro e w1 ⟨v1, rfl, f1, b1⟩
  obtain ⟨F1, eF1⟩ : ∃ F, setM [] 7 when = F := ⟨_, rfl⟩
  rw [eF1] at f1
  obtain ⟨p1, c1, rfl, _, _⟩ := f1.buf.shape
  have hst := (A0.out.below b1).store p1 F1.length c1
  have A1 := Lib.hid (A0.out.set b1 f1)
  obtain ⟨w2, e2⟩ : ∃ W, w1.setRow (B + 2) #[.int .i64 500, .slice p1 F1.length c1] = W := ⟨_, rfl⟩
  rw [e2] at A1 hst
  obtain ⟨m0, m1⟩ := A1.out.cells
  have l1 : F1.length ≤ 1 := by rw [← eF1]; exact setM_len [] 7 when
  have HF1 := Lib.hid eF1
  have HL1 := Lib.hid l1
  have HS2 := Lib.hid (set_any (A1.out.fs.fs (by simp only [maxLen]; omega)) (by omega) 500 11 stan)
  clear f1 b1 e2 eF1 l1 A0
  rw [EB.out]
  go_wp2_with (refine wpList_store_at rfl 29 (.tmp 10) (.tmp 20) rfl ⟨B + 2, 0, none⟩ rfl _ rfl hst ?_)
  refine HS2.out.mono ?_
  rintro e w3 ⟨v3, rfl, f3, b3⟩
  clear hst m0 m1 HS1 HS2
  obtain ⟨F2, eF2⟩ : ∃ F, setM F1 11 stan = F := ⟨_, rfl⟩
  rw [eF2] at f3
  obtain ⟨p3, c3, rfl, _, _⟩ := f3.buf.shape
  have hst := (A1.out.below b3).store p3 F2.length c3
  have A2 := Lib.hid (A1.out.set b3 f3)
  obtain ⟨w4, e4⟩ : ∃ W, w3.setRow (B + 2) #[.int .i64 500, .slice p3 F2.length c3] = W := ⟨_, rfl⟩
  rw [e4] at A2 hst
  obtain ⟨m0, m1⟩ := A2.out.cells
  have l2 : F2.length ≤ 2 := by rw [← eF2]; have := setM_len F1 11 stan; have := HL1.out; omega
  have HF2 := Lib.hid eF2
  have HL2 := Lib.hid l2
  have HS3 := Lib.hid (set_any (A2.out.fs.fs (by simp only [maxLen]; omega)) (by omega) 500 32 code)
  clear f3 b3 e4 eF2 l2 A1
  go_wp2_with (refine wpList_store_at rfl 29 (.tmp 10) (.tmp 23) rfl ⟨B + 2, 0, none⟩ rfl _ rfl hst ?_)
  refine HS3.out.mono ?_
  rintro e w5 ⟨v5, rfl, f5, b5⟩
  clear hst m0 m1 HS3
  obtain ⟨F3, eF3⟩ : ∃ F, setM F2 32 code = F := ⟨_, rfl⟩
  rw [eF3] at f5
  obtain ⟨p5, c5, rfl, _, _⟩ := f5.buf.shape
  have hst := (A2.out.below b5).store p5 F3.length c5
  have A3 := Lib.hid (A2.out.set b5 f5)
  obtain ⟨w6, e6⟩ : ∃ W, w5.setRow (B + 2) #[.int .i64 500, .slice p5 F3.length c5] = W := ⟨_, rfl⟩
  rw [e6] at A3 hst
  have l3 : F3.length ≤ 3 := by rw [← eF3]; have := setM_len F2 32 code; have := HL2.out; omega
  have HHD := Lib.hid (show head3 code when stan = F3 by unfold head3; rw [HF1.out, HF2.out, eF3])
  have HL3 := Lib.hid l3
  have t00 : w6.cell? ⟨B, 1, none⟩ = some (.int .i64 t0) := cells_at A3.out.tot 1
  have t01 : w6.cell? ⟨B, 2, none⟩ = some (.int .i64 t1) := cells_at A3.out.tot 2
  have t02 : w6.cell? ⟨B, 3, none⟩ = some (.int .i64 t2) := cells_at A3.out.tot 3
  have t03 : w6.cell? ⟨B, 4, none⟩ = some (.int .i64 t3) := cells_at A3.out.tot 4
  clear f5 b5 e6 eF3 l3 A2
  go_wp2_with (refine wpList_store_at rfl 29 (.tmp 10) (.tmp 26) rfl ⟨B + 2, 0, none⟩ rfl _ rfl hst ?_)
  obtain ⟨Q, eQ⟩ : ∃ n, w6.heap.size = n := ⟨_, rfl⟩
  obtain ⟨w7, e7⟩ : ∃ W, w6.alloc (.cells #[.int .i64 74, .int .i64 10, .int .i64 t0, .int .i64 76, .int .i64 10, .int .i64 t1, .int .i64 86, .int .i64 16, .int .i64 t2, .int .i64 88, .int .i64 16, .int .i64 t3] 47) = W := ⟨_, rfl⟩
  rw [eQ, e7]
  have b7 : Below w6.heap.size w6 w7 := by rw [← e7]; exact (Below.refl _ _).alloc (Nat.le_refl _) _
  have kq : w7.heap[Q]? = some (.cells #[.int .i64 74, .int .i64 10, .int .i64 t0, .int .i64 76, .int .i64 10, .int .i64 t1, .int .i64 86, .int .i64 16, .int .i64 t2, .int .i64 88, .int .i64 16, .int .i64 t3] 47 (0, 0)) := by rw [← e7, ← eQ]; exact heap_alloc_last _ _
  have hQ : B + 3 ≤ Q ∧ Q < w7.heap.size := ⟨by have := A3.out.size; omega, by rw [← e7, ← eQ]; simp⟩
  have A7 := Lib.hid (A3.out.below b7)
  have HQR := Lib.hid hQ
  have KQ := Lib.hid kq
  clear eQ e7 b7 kq hQ t00 t01 t02 t03 A3 hst HL1 HL2 HF1 HF2
  have HIL := Lib.hid (show IT.length = 4 by rw [HIT.out]; rfl)
  have HQC := Lib.hid (fun (W : World) (h : W.heap[Q]? = some (.cells #[.int .i64 74, .int .i64 10, .int .i64 t0, .int .i64 76, .int .i64 10, .int .i64 t1, .int .i64 86, .int .i64 16, .int .i64 t2, .int .i64 88, .int .i64 16, .int .i64 t3] 47 (0, 0))) (k : Nat) (hk : k < IT.length) => show (W.cell? ⟨Q, k * 3, none⟩ = some (.int .i64 IT[k].1) ∧ W.cell? ⟨Q, k * 3 + 1, none⟩ = some (.int .i64 IT[k].2.1) ∧ W.cell? ⟨Q, k * 3 + 2, none⟩ = some (.int .i64 IT[k].2.2)) ∧ okI IT[k].2.2 by
    have h4 : k < 4 := by rw [← HIL.out]; exact hk
    obtain ⟨i0, i1, i2, i3, i4⟩ := HI.out
    have e := HIT.out
    subst e
    have hc : k = 0 ∨ k = 1 ∨ k = 2 ∨ k = 3 := by omega
    rcases hc with rfl | rfl | rfl | rfl
    · exact ⟨⟨cells_at h 0, cells_at h 1, cells_at h 2⟩, i0⟩
    · exact ⟨⟨cells_at h 3, cells_at h 4, cells_at h 5⟩, i1⟩
    · exact ⟨⟨cells_at h 6, cells_at h 7, cells_at h 8⟩, i2⟩
    · exact ⟨⟨cells_at h 9, cells_at h 10, cells_at h 11⟩, i3⟩)
  go_loopw [41] (fun i wr => wr.heap[Q]? = some (.cells #[.int .i64 74, .int .i64 10, .int .i64 t0, .int .i64 76, .int .i64 10, .int .i64 t1, .int .i64 86, .int .i64 16, .int .i64 t2, .int .i64 88, .int .i64 16, .int .i64 t3] 47 (0, 0)) ∧ Q < wr.heap.size ∧ ∃ (k : Nat) (vo : Value) (G : Flds), k ≤ 4 ∧ i = .int .i64 k ∧ AskSt w B #[.int .i64 mem, .int .i64 t0, .int .i64 t1, .int .i64 t2, .int .i64 t3, .int .i64 t4] wr vo G ∧ digF IT F3 = digF (IT.drop k) G ∧ G.length ≤ 3 + k) (fun i _ => 4 - (intOf i).toNat)
  case atStart => exact ⟨KQ.out, HQR.out.2, 0, _, F3, by omega, rfl, A7.out, by rw [List.drop_zero], HL3.out⟩
  case round =>
    obtain ⟨hq, hqs, k, vo, G, hk, rfl, ha, hd, hl⟩ := hrel
    obtain ⟨po, co, rfl, _, _⟩ := ha.fs.buf.shape
    have HA := Lib.hid ha
    have HD := Lib.hid hd
    have HLG := Lib.hid hl
    by_cases hlt : k < 4
    · have hlt' : (k : Int) < 4 := by omega
      have hkl : k < IT.length := by rw [HIL.out]; exact hlt
      obtain ⟨⟨q0, q1, q2⟩, hok⟩ := HQC.out wr hq k hkl
      have hdr : digF (IT.drop k) G = if (digitsR IT[k].2.2 IT[k].2.1).2 = 0 then digF (IT.drop (k + 1)) (setM G IT[k].1 (digitsR IT[k].2.2 IT[k].2.1).1) else none := by
        rw [List.drop_eq_getElem_cons hkl]; rfl
      obtain ⟨x, ex⟩ : ∃ x, IT[k] = x := ⟨_, rfl⟩
      rw [ex] at q0 q1 q2 hok hdr
      obtain ⟨no, sz, n⟩ := x
      obtain ⟨w8, e8⟩ : ∃ W, wr.alloc (.cells #[.int .i64 no, .int .i64 sz, .int .i64 n] 47) = W := ⟨_, rfl⟩
      have b8 : Below wr.heap.size wr w8 := by rw [← e8]; exact (Below.refl _ _).alloc (Nat.le_refl _) _
      have k8 := box_row wr #[.int .i64 no, .int .i64 sz, .int .i64 n] 47
      have HDG := Lib.hid (digits_any n sz w8 hok)
      obtain ⟨DR, eDR⟩ : ∃ r, digitsR n sz = r := ⟨_, rfl⟩
      simp only [eDR] at hdr
      rw [eDR] at HDG
      obtain ⟨s, er⟩ := DR
      have HDR := Lib.hid hdr
      have A8 := Lib.hid (ha.below b8)
      have q8 : w8.heap[Q]? = _ := (b8.block Q hqs).trans hq
      have HQ8 := Lib.hid q8
      have HS8 := Lib.hid (Nat.lt_of_lt_of_le hqs b8.size)
      have HE8 := Lib.hid e8
      have x0 := cells_at k8 0
      have x1 := cells_at k8 1
      have x2 := cells_at k8 2
      have x80 : w8.cell? ⟨wr.heap.size, 0, none⟩ = some (.int .i64 no) := by rw [← e8]; exact x0
      have XC := Lib.hid x80
      clear ex hdr eDR b8 k8 e8 q8 ha hd hl hq hqs hkl hok x80
      go_wp2_with fail
      rw [HE8.out]
      refine HDG.out.mono ?_
      rintro e w9 ⟨rfl, b9⟩
      have A9 := Lib.hid (A8.out.below b9)
      have HQ9 := Lib.hid ((b9.block Q HS8.out).trans HQ8.out)
      have HS9 := Lib.hid (Nat.lt_of_lt_of_le HS8.out b9.size)
      have x9 := b9.keptCell XC.out
      clear x0 x1 x2 q0 q1 q2 b9
      by_cases hz : er = 0
      · subst hz
        obtain ⟨m0, m1⟩ := A9.out.cells
        have hGl : G.length ≤ 7 := by have := HLG.out; omega
        have HSET := Lib.hid (set_any (A9.out.fs.fs (by simp only [maxLen]; omega)) (by omega) 500 no s)
        clear hGl
        go_wp2_with fail
        refine HSET.out.mono ?_
        rintro e w10 ⟨v10, rfl, f10, b10⟩
        obtain ⟨p10, c10, rfl, _, _⟩ := f10.buf.shape
        have hst := (A9.out.below b10).store p10 (setM G no s).length c10
        have A10 := Lib.hid (A9.out.set b10 f10)
        have HQ10 := Lib.hid ((setRow_other w10 (B + 2) Q #[.int .i64 500, .slice p10 (setM G no s).length c10] (by have := HQR.out; omega)).trans ((b10.block Q HS9.out).trans HQ9.out))
        have HS10 := Lib.hid (Nat.lt_of_lt_of_le HS9.out b10.size)
        have HRD := Lib.hid (show digF IT F3 = digF (IT.drop (k + 1)) (setM G no s) by rw [HD.out, HDR.out, if_pos trivial])
        have HLN := Lib.hid (show (setM G no s).length ≤ 3 + (k + 1) by have := setM_len G no s; have := HLG.out; omega)
        clear f10 b10 m0 m1 x9
        go_wp2_with (refine wpList_store_at rfl 29 (.tmp 10) (.tmp 60) rfl ⟨B + 2, 0, none⟩ rfl _ rfl hst ?_)
        go_roundw
        case rel => exact ⟨HQ10.out, by simpa using HS10.out, k + 1, _, _, by omega, by go_num, A10.out, HRD.out, HLN.out⟩
        case measure => simp [intOf]; omega
      · have HNO := Lib.hid (show askR code when stan (t0, t1, t2, t3, t4) = none by rw [HAR.out, HAF.out, HHD.out, HD.out, HDR.out, if_neg hz]; rfl)
        have hz' : decide (er = 0) = false := by simpa using hz
        have hst9 := store_all (ty := 29) (A9.out.res) info32s rfl #[.int .i64 0, .slice none 0 0] rfl rfl
        have HRS := Lib.hid (A9.out.res)
        have HBL := Lib.hid (A9.out.bel)
        go_wp2_with (refine wpList_store_at rfl 29 (.tmp 8) (.tmp 55) rfl ⟨B + 1, 0, none⟩ rfl _ rfl hst9 ?_)
        refine bodyPost_ret (Go.Proofs.YtjndfmpicnkplaaGreatDoorW.PrintWords.results_ct rfl _ _ (B + 1) _ #[.int .i64 0, .slice none 0 0] (0, 0) _ rfl (setRow_block HRS.out) Tryz.underlying29 rfl info32s) rfl ?_
        exact .inl ⟨HNO.out, rfl, HBL.out.os, HBL.out.tape, HBL.out.output, by have h9 := HBL.out.size; simpa using h9, fun q hq => (setRow_other _ _ q _ (by have := EB.out; omega)).trans (HBL.out.block q hq)⟩
    · obtain rfl : k = 4 := by omega
      have hdd : digF IT F3 = some G := by rw [hd, List.drop_of_length_le (by rw [HIL.out]; exact Nat.le_refl 4)]; rfl
      have HDD := Lib.hid hdd
      have t5 : wr.cell? ⟨B, 5, none⟩ = some (.int .i64 t4) := cells_at ha.tot 5
      have HSG := Lib.hid (signed_any t4 16 wr HI.out.2.2.2.2)
      obtain ⟨SR, eSR⟩ : ∃ r, signedR t4 16 = r := ⟨_, rfl⟩
      have HAF2 := Lib.hid (show askF code when stan (t0, t1, t2, t3, t4) = if SR.2 = 0 then some (setM G 97 SR.1) else none by rw [HAF.out, HHD.out, HDD.out, Option.bind_some]; simp only [eSR])
      rw [eSR] at HSG
      obtain ⟨s, er⟩ := SR
      clear eSR hdd hd hl ha hq hqs HAF HD
      go_wp2_with fail
      refine HSG.out.mono ?_
      rintro e w9 ⟨rfl, b9⟩
      have A9 := Lib.hid (HA.out.below b9)
      clear b9 t5
      by_cases hz : er = 0
      · subst hz
        obtain ⟨m0, m1⟩ := A9.out.cells
        have hGl : G.length ≤ 7 := HLG.out
        have HSET := Lib.hid (set_any (A9.out.fs.fs (by simp only [maxLen]; omega)) (by omega) 500 97 s)
        have HFF := Lib.hid (show askF code when stan (t0, t1, t2, t3, t4) = some (setM G 97 s) by rw [HAF2.out, if_pos rfl])
        have HGL := Lib.hid (show (setM G 97 s).length ≤ 8 by have := setM_len G 97 s; omega)
        obtain ⟨Y, eY⟩ : ∃ Y, setM G 97 s = Y := ⟨_, rfl⟩
        rw [eY] at HSET HFF HGL
        clear hGl eY
        go_wp2_with fail
        refine HSET.out.mono ?_
        rintro e w10 ⟨v10, rfl, f10, b10⟩
        obtain ⟨p10, c10, rfl, _, _⟩ := f10.buf.shape
        have hst := (A9.out.below b10).store p10 Y.length c10
        have A10 := Lib.hid (A9.out.set b10 f10)
        obtain ⟨w11, e11⟩ : ∃ W, w10.setRow (B + 2) #[.int .i64 500, .slice p10 Y.length c10] = W := ⟨_, rfl⟩
        rw [e11] at A10 hst
        clear f10 b10 m0 m1 e11
        obtain ⟨m0, m1⟩ := A10.out.cells
        obtain ⟨z, hz1, hz2⟩ := HC.out Y HFF.out w11 _ (A10.out.fs.fs (by have := HGL.out; simp only [maxLen]; omega)) (HT.out.below A10.out.bel)
        have HZ := Lib.hid hz1
        have HCK := Lib.hid hz2
        clear hz1 hz2
        go_wp2_with (refine wpList_store_at rfl 29 (.tmp 10) (.tmp 73) rfl ⟨B + 2, 0, none⟩ rfl _ rfl hst ?_)
        refine HCK.out.mono ?_
        rintro e w12 ⟨rfl, b12⟩
        have A12 := Lib.hid (A10.out.below b12)
        clear b12 m0 m1 hst
        by_cases hz3 : z = 0
        · subst hz3
          obtain ⟨m0, m1⟩ := A12.out.cells
          have HYES := Lib.hid (show askR code when stan (t0, t1, t2, t3, t4) = some Y by rw [HAR.out, HFF.out, Option.bind_some, if_pos (HZ.out.1 rfl)])
          have hst9 := store_all (ty := 29) A12.out.res info32s rfl #[.int .i64 500, .slice p10 Y.length c10] rfl rfl
          have HRS := Lib.hid A12.out.res
          have HBL := Lib.hid A12.out.bel
          have HFB := Lib.hid (show FBuf w.heap.size (w12.setRow (B + 1) #[.int .i64 500, .slice p10 Y.length c10]) (.slice p10 Y.length c10) Y from ⟨A12.out.fs.buf.kept fun q hq => setRow_other _ _ q _ (by have := A12.out.fs.new q hq; omega), fun q hq => by have := A12.out.fs.new q hq; have := EB.out; omega⟩)
          go_wp2_with (refine wpList_store_at rfl 29 (.tmp 8) (.tmp 78) rfl ⟨B + 1, 0, none⟩ rfl _ rfl hst9 ?_)
          refine bodyPost_ret (Go.Proofs.YtjndfmpicnkplaaGreatDoorW.PrintWords.results_ct rfl _ _ (B + 1) _ #[.int .i64 500, .slice p10 Y.length c10] (0, 0) _ rfl (setRow_block HRS.out) Tryz.underlying29 rfl info32s) rfl ?_
          exact .inr ⟨Y, _, HYES.out, rfl, HFB.out, HBL.out.os, HBL.out.tape, HBL.out.output, by have h9 := HBL.out.size; simpa using h9, fun q hq => (setRow_other _ _ q _ (by have := EB.out; omega)).trans (HBL.out.block q hq)⟩
        · have HNO := Lib.hid (show askR code when stan (t0, t1, t2, t3, t4) = none by rw [HAR.out, HFF.out, Option.bind_some, if_neg (fun h => hz3 (HZ.out.2 h))])
          have hz' : decide (z = 0) = false := by simpa using hz3
          have hst9 := store_all (ty := 29) (A12.out.res) info32s rfl #[.int .i64 0, .slice none 0 0] rfl rfl
          have HRS := Lib.hid (A12.out.res)
          have HBL := Lib.hid (A12.out.bel)
          go_wp2_with (refine wpList_store_at rfl 29 (.tmp 8) (.tmp 77) rfl ⟨B + 1, 0, none⟩ rfl _ rfl hst9 ?_)
          refine bodyPost_ret (Go.Proofs.YtjndfmpicnkplaaGreatDoorW.PrintWords.results_ct rfl _ _ (B + 1) _ #[.int .i64 0, .slice none 0 0] (0, 0) _ rfl (setRow_block HRS.out) Tryz.underlying29 rfl info32s) rfl ?_
          exact .inl ⟨HNO.out, rfl, HBL.out.os, HBL.out.tape, HBL.out.output, by have h9 := HBL.out.size; simpa using h9, fun q hq => (setRow_other _ _ q _ (by have := EB.out; omega)).trans (HBL.out.block q hq)⟩
      · have HNO := Lib.hid (show askR code when stan (t0, t1, t2, t3, t4) = none by rw [HAR.out, HAF2.out, if_neg hz]; rfl)
        have hz' : decide (er = 0) = false := by simpa using hz
        have hst9 := store_all (ty := 29) (A9.out.res) info32s rfl #[.int .i64 0, .slice none 0 0] rfl rfl
        have HRS := Lib.hid (A9.out.res)
        have HBL := Lib.hid (A9.out.bel)
        go_wp2_with (refine wpList_store_at rfl 29 (.tmp 8) (.tmp 70) rfl ⟨B + 1, 0, none⟩ rfl _ rfl hst9 ?_)
        refine bodyPost_ret (Go.Proofs.YtjndfmpicnkplaaGreatDoorW.PrintWords.results_ct rfl _ _ (B + 1) _ #[.int .i64 0, .slice none 0 0] (0, 0) _ rfl (setRow_block HRS.out) Tryz.underlying29 rfl info32s) rfl ?_
        exact .inl ⟨HNO.out, rfl, HBL.out.os, HBL.out.tape, HBL.out.output, by have h9 := HBL.out.size; simpa using h9, fun q hq => (setRow_other _ _ q _ (by have := EB.out; omega)).trans (HBL.out.block q hq)⟩
end Go.Proofs.YtjndfmpicnkplaaGreatDoor.msgw
