/- Layer 20: the reference's Get; copied. Conditions: as each theorem says. -/
import Derived.Test.YtjndfmpicnkplaaDoorMsgK
namespace Go.Proofs.YtjndfmpicnkplaaDoor.msgw
open Go.RowKit
open Go.Proofs.YtjndfmpicnkplaaDoor.msgp
open Go.Proofs.YtjndfmpicnkplaaDoor.buf
theorem rget_any {w : World} {v : Value} {F : Flds} (h : FsAt w v F) (ty no : Int) :
    Calls Tryd.prog 9 #[.agg #[.int .i64 ty, v], .int .i64 no] w fun e w' => e = .returned (.tuple #[.string ((getM F no).getD ⟨#[]⟩), .bool (getM F no).isSome]) ∧ Below w.heap.size w w' := by
  obtain ⟨p, c, rfl⟩ := h.shape
  have hl := h.1
  simp only [maxLen] at hl
  obtain ⟨w1, e1⟩ : ∃ W, w.alloc (.cells #[.int .i64 ty, .slice p F.length c] 32) = W := ⟨_, rfl⟩
  have b1 : Below w.heap.size w w1 := by rw [← e1]; exact (Below.refl _ _).alloc (Nat.le_refl _) _
  have k1 : w1.heap[w.heap.size]? = some (.cells #[.int .i64 ty, .slice p F.length c] 32 (0, 0)) := by rw [← e1]; exact heap_alloc_last _ _
  have H := Lib.hid (h.below b1)
  have B1 := Lib.hid b1
  have K1 := Lib.hid k1
  have E1 := Lib.hid e1
  have L1 := Lib.hid (show w.heap.size < w1.heap.size by rw [← e1]; simp)
  clear h b1 k1 e1
  go_enter Tryd.func9, Tryd.ntmps9
  go_wp2_with fail
  rw [E1.out]
  go_loopw [6] (fun i wr => Below w1.heap.size w1 wr ∧ ∃ k : Nat, k ≤ F.length ∧ i = .int .i64 k ∧ getM F no = getM (F.drop k) no) (fun i _ => F.length - (intOf i).toNat)
  case atStart => exact ⟨Below.refl _ _, 0, by omega, rfl, by simp⟩
  case round =>
    obtain ⟨hbw, k, hk, rfl, he⟩ := hrel
    have m1 : wr.cell? ⟨w.heap.size, 1, none⟩ = some (.slice p F.length c) := hbw.keptCell (cells_at K1.out 1)
    by_cases hlt : k < F.length
    · have hlt' : (k : Int) < F.length := by omega
      obtain ⟨b, o, rfl, q0, q1⟩ := (H.out.below hbw).get k hlt
      have hst := getM_step F no k hlt
      obtain ⟨x, ex⟩ : ∃ x, x = F[k] := ⟨_, rfl⟩
      rw [← ex] at q0 q1 hst
      obtain ⟨n, s⟩ := x
      rw [hst] at he
      have HE := Lib.hid he
      have HB := Lib.hid hbw
      have HBW := Lib.hid (B1.out.trans (hbw.mono B1.out.size))
      clear he hst ex hbw
      by_cases hn : n = no
      · subst hn
        have HE2 := Lib.hid (show getM F n = some s by rw [HE.out, if_pos rfl])
        go_wp2_with fail
        go_ret2
        exact ⟨by rw [HE2.out]; rfl, HBW.out⟩
      · have HE2 := Lib.hid (show getM F no = getM (F.drop (k + 1)) no by rw [HE.out, if_neg hn])
        go_wp2_with fail
        go_roundw
        case rel => exact ⟨HB.out, k + 1, by omega, by go_num, HE2.out⟩
        case measure => simp [intOf]; omega
    · obtain rfl : k = F.length := by omega
      have hlt' : ¬ (F.length : Int) < F.length := by omega
      have HE := Lib.hid (show getM F no = none by rw [he, List.drop_length]; rfl)
      have HBW := Lib.hid (B1.out.trans (hbw.mono B1.out.size))
      clear he hbw
      go_wp2_with fail
      go_ret2
      exact ⟨by rw [HE.out]; rfl, HBW.out⟩
def copyM (F : Flds) (nos : List Int) (acc : Flds) : Flds := nos.foldl (fun acc no => match getM F no with | none => acc | some s => setM acc no s) acc
theorem setM_len (F : Flds) (no : Int) (s : ByteArray) : (setM F no s).length ≤ F.length + 1 := by
  have h1 : (delM F no).length ≤ F.length := List.length_filter_le _ _
  have h2 := spot_le (delM F no) no
  unfold setM insM
  rw [List.length_append, List.length_cons, List.length_take, List.length_drop]
  omega
theorem copyM_snoc (F : Flds) (nos : List Int) (k : Nat) (hk : k < nos.length) (acc : Flds) : copyM F (nos.take (k + 1)) acc = match getM F nos[k] with | none => copyM F (nos.take k) acc | some s => setM (copyM F (nos.take k) acc) nos[k] s := by
  unfold copyM
  rw [← List.take_append_getElem hk, List.foldl_append]
  rfl
theorem copyM_len (F : Flds) (nos : List Int) (acc : Flds) : (copyM F nos acc).length ≤ acc.length + nos.length := by
  induction nos generalizing acc with
  | nil => exact Nat.le_refl _
  | cons n r ih =>
    have : copyM F (n :: r) acc = copyM F r (match getM F n with | none => acc | some s => setM acc n s) := rfl
    rw [this]
    refine Nat.le_trans (ih _) ?_
    rw [List.length_cons]
    cases getM F n with
    | none => show acc.length + r.length ≤ _; omega
    | some s => have := setM_len acc n s; show (setM acc n s).length + r.length ≤ _; omega
/-- Integers in a slice. -/
def IntsAt (w : World) (v : Value) (l : List Int) : Prop := ∃ b o c, v = .slice (some ⟨b, o, none⟩) l.length c ∧ ∀ i (h : i < l.length), w.cell? ⟨b, o + i, none⟩ = some (.int .i64 l[i])
theorem IntsAt.below {w w' : World} {v : Value} {l : List Int} (h : IntsAt w v l) (hb : Below w.heap.size w w') : IntsAt w' v l := by
  obtain ⟨b, o, c, e, h1⟩ := h
  exact ⟨b, o, c, e, fun i hi => hb.keptCell (h1 i hi)⟩
set_option maxHeartbeats 1000000 in
set_option maxRecDepth 100000 in
theorem copied_any {w : World} {v nv : Value} {F : Flds} {nos : List Int} (h : FsAt w v F) (hn : IntsAt w nv nos) (hl : nos.length ≤ 100) (kind ty : Int) :
    Calls Tryd.prog 14 #[.int .i64 kind, .agg #[.int .i64 ty, v], nv] w fun e w' => ∃ v', e = .returned (.agg #[.int .i64 kind, v']) ∧ FBuf w.heap.size w' v' (copyM F nos []) ∧ Below w.heap.size w w' := by
  obtain ⟨p, c, rfl⟩ := h.shape
  obtain ⟨nb, no, nc, rfl, hn2⟩ := hn
  obtain ⟨B, eB⟩ : ∃ b, w.heap.size = b := ⟨_, rfl⟩
  obtain ⟨w0, e0⟩ : ∃ W, ((w.alloc (.cells #[.int .i64 ty, .slice p F.length c] 32)).alloc (.cells #[.int .i64 0, .slice none 0 0] 32)).alloc (.cells #[.int .i64 kind, .slice none 0 0] 32) = W := ⟨_, rfl⟩
  have b0 : Below w.heap.size w w0 := by rw [← e0]; exact (((Below.refl _ _).alloc (Nat.le_refl _) _).alloc (by simp) _).alloc (by simp; omega) _
  have s0 : w0.heap.size = B + 3 := by rw [← e0, ← eB]; simp
  have km : w0.heap[B]? = some (.cells #[.int .i64 ty, .slice p F.length c] 32 (0, 0)) := by
    rw [← e0, ← eB, Below.heap_alloc _ _ _ (by simp; omega), Below.heap_alloc _ _ _ (by simp)]
    exact heap_alloc_last _ _
  have kr : w0.heap[B + 1]? = some (.cells #[.int .i64 0, .slice none 0 0] 32 (0, 0)) := by
    rw [← e0, ← eB, Below.heap_alloc _ _ _ (by simp)]
    have := heap_alloc_last (w.alloc (.cells #[.int .i64 ty, .slice p F.length c] 32)) (.cells #[.int .i64 0, .slice none 0 0] 32)
    simpa using this
  have ko : w0.heap[B + 2]? = some (.cells #[.int .i64 kind, .slice none 0 0] 32 (0, 0)) := by
    rw [← e0, ← eB]
    have := heap_alloc_last ((w.alloc (.cells #[.int .i64 ty, .slice p F.length c] 32)).alloc (.cells #[.int .i64 0, .slice none 0 0] 32)) (.cells #[.int .i64 kind, .slice none 0 0] 32)
    simpa using this
  have H := Lib.hid h
  have HN := Lib.hid hn2
  have HB0 := Lib.hid b0
  have S0 := Lib.hid s0
  have KM := Lib.hid km
  have KR := Lib.hid kr
  have KO := Lib.hid ko
  have E0 := Lib.hid e0
  have EB := Lib.hid eB
  have HL := Lib.hid hl
  clear h hn2 b0 s0 km kr ko e0
  go_enter Tryd.func14, Tryd.ntmps14
  go_wp2_with fail
  rw [E0.out]
  clear eB
  go_loopw [16] (fun i wr => Below w.heap.size w wr ∧ B + 3 ≤ wr.heap.size ∧ wr.heap[B]? = some (.cells #[.int .i64 ty, .slice p F.length c] 32 (0, 0)) ∧ wr.heap[B + 1]? = some (.cells #[.int .i64 0, .slice none 0 0] 32 (0, 0)) ∧ ∃ (k : Nat) (vo : Value), k ≤ nos.length ∧ i = .int .i64 k ∧ wr.heap[B + 2]? = some (.cells #[.int .i64 kind, vo] 32 (0, 0)) ∧ FBuf (B + 3) wr vo (copyM F (nos.take k) [])) (fun i _ => nos.length - (intOf i).toNat)
  case atStart => exact ⟨HB0.out, by rw [S0.out]; omega, KM.out, KR.out, 0, _, by omega, rfl, KO.out, ⟨⟨rfl, .inl ⟨rfl, .inl rfl⟩⟩, fun g hg => by simp [bufBlock] at hg⟩⟩
  case round =>
    obtain ⟨hbw, hsz, km, kr, k, vo, hk, rfl, ko, hf⟩ := hrel
    obtain ⟨po, co, rfl, _, _⟩ := hf.buf.shape
    have m0 := cells_at km 0
    have m1 := cells_at km 1
    have o0 := cells_at ko 0
    have o1 := cells_at ko 1
    have HF := Lib.hid hf
    have HSZ := Lib.hid hsz
    have HKM := Lib.hid km
    have HKR := Lib.hid kr
    have HKO := Lib.hid ko
    have HBW := Lib.hid hbw
    clear hsz km kr ko hf
    by_cases hlt : k < nos.length
    · have hlt' : (k : Int) < nos.length := by omega
      have q0 : wr.cell? ⟨nb, no + k, none⟩ = some (.int .i64 nos[k]) := hbw.keptCell (HN.out k hlt)
      have hsn := copyM_snoc F nos k hlt []
      obtain ⟨x, ex⟩ : ∃ x, nos[k] = x := ⟨_, rfl⟩
      rw [ex] at q0 hsn
      have HSN := Lib.hid hsn
      have HGET := Lib.hid (get_any (H.out.below hbw) ty x)
      have HLT := Lib.hid hlt
      clear hsn hbw ex
      go_wp2_with fail
      refine HGET.out.mono ?_
      rintro e w1 ⟨rfl, b1⟩
      have HB1 := Lib.hid (HBW.out.trans (b1.mono HBW.out.size))
      have l2 : B + 2 < wr.heap.size := by have := HSZ.out; omega
      have km1 := (b1.block B (by omega)).trans HKM.out
      have kr1 := (b1.block (B + 1) (by omega)).trans HKR.out
      have ko1 := (b1.block (B + 2) l2).trans HKO.out
      have HF1 := Lib.hid (HF.out.below b1)
      have hs1 : B + 3 ≤ w1.heap.size := Nat.le_trans HSZ.out b1.size
      have HS1 := Lib.hid hs1
      clear b1 m0 m1 o0 o1 l2 hs1
      obtain ⟨G, eG⟩ : ∃ G, getM F x = G := ⟨_, rfl⟩
      rw [eG] at HSN ⊢
      clear eG HGET
      cases G with
      | none =>
        simp only [Option.getD_none, Option.isSome_none]
        have HKM1 := Lib.hid km1
        have HKR1 := Lib.hid kr1
        have HKO1 := Lib.hid ko1
        clear km1 kr1 ko1
        go_wp2_with fail
        go_roundw
        case rel => exact ⟨HB1.out, HS1.out, HKM1.out, HKR1.out, k + 1, _, by omega, by go_num, HKO1.out, by rw [HSN.out]; exact HF1.out⟩
        case measure => simp [intOf]; omega
      | some s =>
        simp only [Option.getD_some, Option.isSome_some]
        have o0 := cells_at ko1 0
        have o1 := cells_at ko1 1
        have hlen := copyM_len F (nos.take k) []
        rw [List.length_take, Nat.min_eq_left (Nat.le_of_lt HLT.out)] at hlen
        have hlen2 : (copyM F (nos.take k) []).length ≤ 100 := by have := HL.out; have : ([] : Flds).length = 0 := rfl; omega
        have HSET := Lib.hid (set_any (HF1.out.fs (by simp only [maxLen]; omega)) (by omega) kind x s)
        have HKM1 := Lib.hid km1
        have HKR1 := Lib.hid kr1
        have HKO1 := Lib.hid ko1
        clear km1 kr1 ko1 hlen hlen2
        go_wp2_with fail
        refine HSET.out.mono ?_
        rintro e w2 ⟨v2, rfl, f2, b2⟩
        obtain ⟨p2, c2, rfl, _, _⟩ := f2.buf.shape
        have ko2 := (b2.block (B + 2) (by have := HS1.out; omega)).trans HKO1.out
        have km2 := (b2.block B (by have := HS1.out; omega)).trans HKM1.out
        have kr2 := (b2.block (B + 1) (by have := HS1.out; omega)).trans HKR1.out
        have hst := store_all (ty := 32) ko2 info32s rfl #[.int .i64 kind, .slice p2 (setM (copyM F (nos.take k) []) x s).length c2] rfl rfl
        obtain ⟨w3, e3⟩ : ∃ W, w2.setRow (B + 2) #[.int .i64 kind, .slice p2 (setM (copyM F (nos.take k) []) x s).length c2] = W := ⟨_, rfl⟩
        have HE3 := Lib.hid e3
        have hs2 : B + 3 ≤ w2.heap.size := Nat.le_trans HS1.out b2.size
        have KO3 := Lib.hid (show w3.heap[B + 2]? = some (.cells #[.int .i64 kind, .slice p2 (setM (copyM F (nos.take k) []) x s).length c2] 32 (0, 0)) by rw [← e3]; exact setRow_block ko2)
        have KM3 := Lib.hid (show w3.heap[B]? = some (.cells #[.int .i64 ty, .slice p F.length c] 32 (0, 0)) by rw [← e3]; exact (setRow_other _ _ B _ (by omega)).trans km2)
        have KR3 := Lib.hid (show w3.heap[B + 1]? = some (.cells #[.int .i64 0, .slice none 0 0] 32 (0, 0)) by rw [← e3]; exact (setRow_other _ _ (B + 1) _ (by omega)).trans kr2)
        have HS3 := Lib.hid (show B + 3 ≤ w3.heap.size by rw [← e3]; simpa using hs2)
        have HBx := Lib.hid (HB1.out.trans (b2.mono HB1.out.size))
        have HB3 := Lib.hid (show Below w.heap.size w w3 by
          rw [← e3]
          exact ⟨HBx.out.os, HBx.out.tape, HBx.out.output, by have h9 := HBx.out.size; simpa using h9, fun q hq => (setRow_other _ _ q _ (by have := EB.out; omega)).trans (HBx.out.block q hq)⟩)
        have HF3 := Lib.hid (show FBuf (B + 3) w3 (.slice p2 (setM (copyM F (nos.take k) []) x s).length c2) (copyM F (nos.take (k + 1)) []) by
          rw [HSN.out, ← e3]
          exact ⟨f2.buf.kept fun q hq => setRow_other _ _ q _ (by have h9 := f2.new q hq; have := HS1.out; omega), fun q hq => Nat.le_trans HS1.out (f2.new q hq)⟩)
        rw [e3] at hst
        clear ko2 km2 kr2 b2 f2 e3 hs2 o0 o1
        go_wp2_with (refine wpList_store_at rfl 32 (.tmp 7) (.tmp 30) rfl ⟨B + 2, 0, none⟩ rfl _ rfl hst ?_)
        go_roundw
        case rel => exact ⟨HB3.out, HS3.out, KM3.out, KR3.out, k + 1, _, by omega, by go_num, KO3.out, HF3.out⟩
        case measure => simp [intOf]; omega
    · obtain rfl : k = nos.length := by omega
      have hlt' : ¬ (nos.length : Int) < nos.length := by omega
      rw [List.take_length] at HF o1
      have hst := store_all (ty := 32) HKR.out info32s rfl #[.int .i64 kind, .slice po (copyM F nos []).length co] rfl rfl
      have HRES := Lib.hid (show FBuf w.heap.size (wr.setRow (B + 1) #[.int .i64 kind, .slice po (copyM F nos []).length co]) (.slice po (copyM F nos []).length co) (copyM F nos []) ∧ Below w.heap.size w (wr.setRow (B + 1) #[.int .i64 kind, .slice po (copyM F nos []).length co]) by
        refine ⟨?_, HBW.out.os, HBW.out.tape, HBW.out.output, by have h9 := HBW.out.size; simpa using h9, fun q hq => (setRow_other _ _ q _ (by have := EB.out; omega)).trans (HBW.out.block q hq)⟩
        have h2 := HF.out
        exact ⟨h2.buf.kept fun q hq => setRow_other _ _ q _ (by have h9 := h2.new q hq; omega), fun q hq => by have h9 := h2.new q hq; have := EB.out; omega⟩)
      clear hbw
      go_wp2_with (refine wpList_store_at rfl 32 (.tmp 6) (.tmp 32) rfl ⟨B + 1, 0, none⟩ rfl _ rfl hst ?_)
      refine bodyPost_ret (results_cell_row rfl _ _ (B + 1) _ #[.int .i64 kind, .slice po (copyM F nos []).length co] (0, 0) _ rfl (setRow_block HKR.out) Tryd.underlying32 rfl info32s) rfl ?_
      exact ⟨_, rfl, HRES.out⟩
end Go.Proofs.YtjndfmpicnkplaaDoor.msgw
