/- Layer 20: Answer. Conditions: as each theorem says. -/
import Derived.Test.YtjndfmpicnkplaaDoorRecB
import Derived.Test.YtjndfmpicnkplaaDoorRecC
import Derived.Test.YtjndfmpicnkplaaDoorWEqStruct
namespace Go.Proofs.YtjndfmpicnkplaaDoor.msgw
open Go.RowKit
open Go.Proofs.YtjndfmpicnkplaaDoor.msgp
open Go.Proofs.YtjndfmpicnkplaaDoor.buf
open Go.Proofs.YtjndfmpicnkplaaDoor.fieldp
open Go.Proofs.YtjndfmpicnkplaaDoor.fieldw
def totOf (m : Int) (l : List Int) : Tot := (m, l.getD 0 0, l.getD 1 0, l.getD 2 0, l.getD 3 0, l.getD 4 0)
theorem readL_len (x : Flds) : ∀ (ts : List Shp) (l : List Int), readL x ts = some l → l.length = ts.length
  | [], l, h => by simp only [readL, Option.some.injEq] at h; subst h; rfl
  | t :: r, l, h => by
    unfold readL at h
    split at h
    · cases e : readL x r with
      | none => rw [e] at h; cases h
      | some l2 =>
        rw [e] at h
        simp only [Option.map_some, Option.some.injEq] at h
        subst h
        rw [List.length_cons, List.length_cons, readL_len x r l2 e]
    · cases h
theorem readR_len (ty : Int) (F : Flds) : (readR ty F).1.length = 5 := by
  unfold readR
  split
  · rfl
  · split
    · rfl
    · split
      · rfl
      · rename_i l e; exact readL_len _ tail5 l e
theorem totV_eq (m : Int) {l : List Int} (h : l.length = 5) : totV m l = totA (totOf m l) := by
  match l, h with
  | [a, b, c, d, e], _ => rfl
/-- Is a total just what the book says? -/
def hitB (L : List Tot) (t : Tot) : Bool := match L[totAt L t.1]? with
  | none => false
  | some x => decide (x = t)
/-- The code of an answer. -/
def ansOf (ty : Int) (F : Flds) (m : Int) (closed : Bool) (L : List Tot) : ByteArray :=
  if (readR ty F).2 ≠ 0 then ⟨#[51, 48]⟩ else if closed && hitB L (totOf m (readR ty F).1) then ⟨#[48, 48]⟩ else ⟨#[57, 53]⟩
/-- What Answer answers. -/
def answerM (ty : Int) (F : Flds) (m : Int) (closed : Bool) (L : List Tot) : Flds := setM (copyM F [7, 11, 32] []) 39 (ansOf ty F m closed L)
theorem eq_tot (x y : Tot) (w : World) : (binOp .eql 23 (totA x) (totA y)).run Tryd.prog w = .ok (.bool (decide (x = y))) w := by
  obtain ⟨x0, x1, x2, x3, x4, x5⟩ := x
  obtain ⟨y0, y1, y2, y3, y4, y5⟩ := y
  unfold totA
  go_simp
  by_cases h0 : x0 = y0 <;> by_cases h1 : x1 = y1 <;> by_cases h2 : x2 = y2 <;> by_cases h3 : x3 = y3 <;> by_cases h4 : x4 = y4 <;> by_cases h5 : x5 = y5 <;> simp [h0, h1, h2, h3, h4, h5]
set_option maxHeartbeats 2000000 in
set_option maxRecDepth 100000 in
theorem answer_any {w : World} {v vl : Value} {F : Flds} {L : List Tot} (h : FsAt w v F) (hT : Tabs w) (hS : SmallF F) (hL : TotsAt w vl L) (ty m dn : Int) (closed : Bool) :
    Calls Tryd.prog 8 #[.agg #[.int .i64 ty, v], .int .i64 m, .agg #[.int .i64 dn, vl], .bool closed] w fun e w' => ∃ v', e = .returned (.agg #[.int .i64 510, v']) ∧ FBuf w.heap.size w' v' (answerM ty F m closed L) ∧ Below w.heap.size w w' := by
  obtain ⟨p, c, rfl⟩ := h.shape
  obtain ⟨pl, cl, rfl⟩ := hL.shape
  obtain ⟨B, eB⟩ : ∃ b, w.heap.size = b := ⟨_, rfl⟩
  obtain ⟨w0, e0⟩ : ∃ W, (((w.alloc (.cells #[.int .i64 ty, .slice p F.length c] 32)).alloc (.cells #[.int .i64 m] 3)).alloc (.cells #[.int .i64 dn, .slice pl L.length cl] 28)).alloc (.cells #[.int .i64 0, .slice none 0 0] 32) = W := ⟨_, rfl⟩
  have b0 : Below w.heap.size w w0 := by rw [← e0]; exact ((((Below.refl _ _).alloc (Nat.le_refl _) _).alloc (by simp) _).alloc (by simp <;> omega) _).alloc (by simp <;> omega) _
  have s0 : w0.heap.size = B + 4 := by rw [← e0, ← eB]; simp
  have km : w0.heap[B]? = some (.cells #[.int .i64 ty, .slice p F.length c] 32 (0, 0)) := by
    rw [← e0, ← eB, Below.heap_alloc _ _ _ (by simp <;> omega), Below.heap_alloc _ _ _ (by simp <;> omega), Below.heap_alloc _ _ _ (by simp)]
    exact heap_alloc_last _ _
  have kb : w0.heap[B + 1]? = some (.cells #[.int .i64 m] 3 (0, 0)) := by
    rw [← e0, ← eB, Below.heap_alloc _ _ _ (by simp <;> omega), Below.heap_alloc _ _ _ (by simp)]
    have := heap_alloc_last (w.alloc (.cells #[.int .i64 ty, .slice p F.length c] 32)) (.cells #[.int .i64 m] 3)
    simpa using this
  have kd : w0.heap[B + 2]? = some (.cells #[.int .i64 dn, .slice pl L.length cl] 28 (0, 0)) := by
    rw [← e0, ← eB, Below.heap_alloc _ _ _ (by simp)]
    have := heap_alloc_last ((w.alloc (.cells #[.int .i64 ty, .slice p F.length c] 32)).alloc (.cells #[.int .i64 m] 3)) (.cells #[.int .i64 dn, .slice pl L.length cl] 28)
    simpa using this
  have kr : w0.heap[B + 3]? = some (.cells #[.int .i64 0, .slice none 0 0] 32 (0, 0)) := by
    rw [← e0, ← eB]
    have := heap_alloc_last (((w.alloc (.cells #[.int .i64 ty, .slice p F.length c] 32)).alloc (.cells #[.int .i64 m] 3)).alloc (.cells #[.int .i64 dn, .slice pl L.length cl] 28)) (.cells #[.int .i64 0, .slice none 0 0] 32)
    simpa using this
  obtain ⟨w1, e1⟩ : ∃ W, w0.alloc (.cells #[.int .i64 7, .int .i64 11, .int .i64 32] 3) = W := ⟨_, rfl⟩
  have b1 : Below w0.heap.size w0 w1 := by rw [← e1]; exact (Below.refl _ _).alloc (Nat.le_refl _) _
  have k1 : w1.heap[B + 4]? = some (.cells #[.int .i64 7, .int .i64 11, .int .i64 32] 3 (0, 0)) := by rw [← e1, ← s0]; exact heap_alloc_last _ _
  have hB1 := b0.trans (b1.mono b0.size)
  have HC1 := Lib.hid (copied_any (nos := [7, 11, 32]) (h.below hB1) ⟨B + 4, 0, 3, rfl, fun i hi => by
    rw [Nat.zero_add, cells_at k1 i]
    have h3 : i < 3 := hi
    have hc : i = 0 ∨ i = 1 ∨ i = 2 := by omega
    rcases hc with rfl | rfl | rfl <;> rfl⟩ (by decide) 510 ty)
  have HB1 := Lib.hid hB1
  have HM := Lib.hid ((b1.block B (by omega)).trans km)
  have HBm := Lib.hid ((b1.block (B + 1) (by omega)).trans kb)
  have HD := Lib.hid ((b1.block (B + 2) (by omega)).trans kd)
  have HR := Lib.hid ((b1.block (B + 3) (by omega)).trans kr)
  have S1 := Lib.hid (show w1.heap.size = B + 5 by rw [← e1]; simp; omega)
  have E0 := Lib.hid e0
  have E1 := Lib.hid e1
  have EB := Lib.hid eB
  have H := Lib.hid h
  have HT := Lib.hid hT
  have HS := Lib.hid hS
  have HL := Lib.hid hL
  have m0 := cells_at km 0
  have m1 := cells_at km 1
  rw [← e0] at m0 m1
  clear h hT hS hL b0 s0 km kb kd kr b1 k1 hB1 e1 e0
  go_enter Tryd.func8, Tryd.ntmps8
  go_wp2_with fail
  rw [E0.out, E1.out]
  refine HC1.out.mono ?_
  rintro e w2 ⟨v2, rfl, f2, b2⟩
  obtain ⟨po, co, rfl, _, _⟩ := f2.buf.shape
  obtain ⟨X, eX⟩ : ∃ X, copyM F [7, 11, 32] [] = X := ⟨_, rfl⟩
  rw [eX] at f2 ⊢
  have HX := Lib.hid eX
  have hB2 := HB1.out.trans (b2.mono HB1.out.size)
  obtain ⟨w3, e3⟩ : ∃ W, w2.alloc (.cells #[.int .i64 510, .slice po X.length co] 32) = W := ⟨_, rfl⟩
  have b3 : Below w2.heap.size w2 w3 := by rw [← e3]; exact (Below.refl _ _).alloc (Nat.le_refl _) _
  have b23 := b2.trans (b3.mono b2.size)
  have k3 : w3.heap[w2.heap.size]? = some (.cells #[.int .i64 510, .slice po X.length co] 32 (0, 0)) := by rw [← e3]; exact heap_alloc_last _ _
  have hB3 := hB2.trans (b3.mono hB2.size)
  have hs2 := b2.size
  have HM3 := Lib.hid ((b23.block B (by have := S1.out; omega)).trans HM.out)
  have HBm3 := Lib.hid ((b23.block (B + 1) (by have := S1.out; omega)).trans HBm.out)
  have HD3 := Lib.hid ((b23.block (B + 2) (by have := S1.out; omega)).trans HD.out)
  have HR3 := Lib.hid ((b23.block (B + 3) (by have := S1.out; omega)).trans HR.out)
  have m03 : w3.cell? ⟨B, 0, none⟩ = some (.int .i64 ty) := cells_at HM3.out 0
  have m13 : w3.cell? ⟨B, 1, none⟩ = some (.slice p F.length c) := cells_at HM3.out 1
  have HRD := Lib.hid (read_any (H.out.below hB3) (HT.out.below hB3) HS.out ty)
  have HB3 := Lib.hid hB3
  have HF3 := Lib.hid (f2.below b3)
  have K3 := Lib.hid k3
  have S3 := Lib.hid (show w3.heap.size = w2.heap.size + 1 by rw [← e3]; simp)
  have S2 := Lib.hid (show B + 5 ≤ w2.heap.size by have := S1.out; omega)
  have E3 := Lib.hid e3
  rw [← e3] at m03 m13
  clear eX hB2 b3 b23 k3 hB3 hs2 f2 b2 e3 m0 m1 eB
  go_wp2_with fail
  rw [E3.out]
  refine HRD.out.mono ?_
  rintro e w4 ⟨rfl, b4⟩
  obtain ⟨rl, erl⟩ : ∃ l, (readR ty F).1 = l := ⟨_, rfl⟩
  obtain ⟨re, ere⟩ : ∃ l, (readR ty F).2 = l := ⟨_, rfl⟩
  have hrl := readR_len ty F
  rw [erl] at hrl
  rw [erl, ere, totV_eq 0 hrl]
  have HRL := Lib.hid erl
  have HRE := Lib.hid ere
  obtain ⟨a0, a1, a2, a3, a4, rfl⟩ : ∃ a0 a1 a2 a3 a4, rl = [a0, a1, a2, a3, a4] := by
    match rl, hrl with
    | [a0, a1, a2, a3, a4], _ => exact ⟨a0, a1, a2, a3, a4, rfl⟩
  rw [show totA (totOf 0 [a0, a1, a2, a3, a4]) = .agg #[.int .i64 0, .int .i64 a0, .int .i64 a1, .int .i64 a2, .int .i64 a3, .int .i64 a4] from rfl]
  obtain ⟨T, eT⟩ : ∃ n, w4.heap.size = n := ⟨_, rfl⟩
  obtain ⟨w6, e6⟩ : ∃ W, w4.alloc (.cells #[.int .i64 m, .int .i64 a0, .int .i64 a1, .int .i64 a2, .int .i64 a3, .int .i64 a4] 23) = W := ⟨_, rfl⟩
  have b6 : Below w4.heap.size w4 w6 := by rw [← e6]; exact (Below.refl _ _).alloc (Nat.le_refl _) _
  have k6 : w6.heap[T]? = some (.cells #[.int .i64 m, .int .i64 a0, .int .i64 a1, .int .i64 a2, .int .i64 a3, .int .i64 a4] 23 (0, 0)) := by rw [← e6, ← eT]; exact heap_alloc_last _ _
  have b36 := b4.trans (b6.mono b4.size)
  have hs4 := b4.size
  have HD6 := Lib.hid ((b36.block (B + 2) (by have := S3.out; have := S2.out; omega)).trans HD3.out)
  have HR6 := Lib.hid ((b36.block (B + 3) (by have := S3.out; have := S2.out; omega)).trans HR3.out)
  have HBm6 := Lib.hid ((b36.block (B + 1) (by have := S3.out; have := S2.out; omega)).trans HBm3.out)
  have K36 := Lib.hid ((b36.block w2.heap.size (by have := S3.out; omega)).trans K3.out)
  have HF6 := Lib.hid (HF3.out.below b36)
  have HB6 := Lib.hid (HB3.out.trans (b36.mono HB3.out.size))
  have mb5 : w4.cell? ⟨B + 1, 0, none⟩ = some (.int .i64 m) := b4.keptCell (cells_at HBm3.out 0)
  have mb6 := (b6.keptCell mb5)
  have d0 : w6.cell? ⟨B + 2, 0, none⟩ = some (.int .i64 dn) := cells_at HD6.out 0
  have d1 : w6.cell? ⟨B + 2, 1, none⟩ = some (.slice pl L.length cl) := cells_at HD6.out 1
  have HTT := Lib.hid (show w2.heap.size + 1 ≤ T ∧ T < w6.heap.size from ⟨by have := S3.out; omega, by rw [← e6, ← eT]; simp⟩)
  have HIX := Lib.hid (index_tot (cells_at HBm6.out 0) (HL.out.below HB6.out))
  have K6 := Lib.hid k6
  have E6 := Lib.hid e6
  have ET := Lib.hid eT
  have mb55 := ((Below.refl w4.heap.size w4).alloc (Nat.le_refl _) (.cells #[.int .i64 0, .int .i64 a0, .int .i64 a1, .int .i64 a2, .int .i64 a3, .int .i64 a4] 23)).keptCell mb5
  rw [← e6] at d0 d1 mb6
  clear b4 b6 k6 b36 hs4 e6 eT erl ere hrl
  go_wp2_with fail
  rw [E6.out]
  refine HIX.out.mono ?_
  rintro e w7 ⟨rfl, b7⟩
  obtain ⟨K, eK⟩ : ∃ z : Int, (if totAt L m < L.length then ((totAt L m : Nat) : Int) else -1) = z := ⟨_, rfl⟩
  rw [eK]
  have HK := Lib.hid eK
  clear eK
  have hT6 := HTT.out
  have HXL := Lib.hid (show X.length ≤ 3 by rw [← HX.out]; exact copyM_len F [7, 11, 32] [])
  have OW := Lib.hid ((b7.block w2.heap.size (by omega)).trans K36.out)
  have HRW := Lib.hid ((b7.block (B + 3) (by have := S2.out; omega)).trans HR6.out)
  have HDW := Lib.hid ((b7.block (B + 2) (by have := S2.out; omega)).trans HD6.out)
  have KTW := Lib.hid ((b7.block T (by omega)).trans K6.out)
  have HFW := Lib.hid (HF6.out.below b7)
  have HBW := Lib.hid (HB6.out.trans (b7.mono HB6.out.size))
  have HSW := Lib.hid (show w2.heap.size + 1 ≤ w7.heap.size by have := b7.size; omega)
  clear b7 hT6 d0 d1 mb5 mb6 mb55
  by_cases hre : re = 0
  · subst hre
    have HHIT := Lib.hid (show ansOf ty F m closed L = if closed && hitB L (totOf m (readR ty F).1) then ⟨#[48, 48]⟩ else ⟨#[57, 53]⟩ by unfold ansOf; rw [HRE.out, if_neg (by decide)])
    have dw0 : w7.cell? ⟨B + 2, 1, none⟩ = some (.slice pl L.length cl) := cells_at HDW.out 1
    cases closed with
    | false =>
      have HANS := Lib.hid (show ansOf ty F m false L = ⟨#[57, 53]⟩ by rw [HHIT.out]; rfl)
      go_wp2_with fail
      go_quiet (fail)
      obtain ⟨w9, e9⟩ : ∃ W, w7.drewN nq = W := ⟨_, rfl⟩
      rw [e9]
      have bq : Below w7.heap.size w7 w9 := by rw [← e9]; exact drewN_base _ _
      have OW9 := Lib.hid ((bq.block w2.heap.size (by have := HSW.out; omega)).trans OW.out)
      have HRW9 := Lib.hid ((bq.block (B + 3) (by have := S2.out; have := HSW.out; omega)).trans HRW.out)
      have HFW9 := Lib.hid (HFW.out.below bq)
      have HBW9 := Lib.hid (HBW.out.trans (bq.mono HBW.out.size))
      have HSW9 := Lib.hid (Nat.le_trans HSW.out bq.size)
      clear bq e9
      clear dw0
      have o0 : w9.cell? ⟨w2.heap.size, 0, none⟩ = some (.int .i64 510) := cells_at OW9.out 0
      have o1 : w9.cell? ⟨w2.heap.size, 1, none⟩ = some (.slice po X.length co) := cells_at OW9.out 1
      have HSET := Lib.hid (set_any (HFW9.out.fs (by have := HXL.out; simp only [maxLen]; omega)) (by have := HXL.out; omega) 510 39 ⟨#[57, 53]⟩)
      have HAN := Lib.hid (show answerM ty F m false L = setM X 39 ⟨#[57, 53]⟩ by unfold answerM; rw [HX.out, HANS.out])
      obtain ⟨Y, eY⟩ : ∃ Y, setM X 39 ⟨#[57, 53]⟩ = Y := ⟨_, rfl⟩
      rw [eY] at HSET HAN
      clear eY
      go_wp2_with fail
      refine HSET.out.mono ?_
      rintro e w8 ⟨v8, rfl, f8, b8⟩
      obtain ⟨p8, c8, rfl, _, _⟩ := f8.buf.shape
      have hw7 : w2.heap.size + 1 ≤ w9.heap.size := HSW9.out
      have kr8 := (b8.block (B + 3) (by have := S2.out; omega)).trans HRW9.out
      have hst := store_all (ty := 32) kr8 info32s rfl #[.int .i64 510, .slice p8 Y.length c8] rfl rfl
      have HRES := Lib.hid (show FBuf w.heap.size (w8.setRow (B + 3) #[.int .i64 510, .slice p8 Y.length c8]) (.slice p8 Y.length c8) (answerM ty F m false L) ∧ Below w.heap.size w (w8.setRow (B + 3) #[.int .i64 510, .slice p8 Y.length c8]) by
        rw [HAN.out]
        have hb8 := HBW9.out.trans (b8.mono HBW9.out.size)
        refine ⟨⟨f8.buf.kept fun q hq => setRow_other _ _ q _ (by have := f8.new q hq; have := S2.out; omega), fun q hq => by have := f8.new q hq; have := S2.out; have := EB.out; omega⟩, hb8.os, hb8.tape, hb8.output, by have h9 := hb8.size; simpa using h9, fun q hq => (setRow_other _ _ q _ (by have := EB.out; omega)).trans (hb8.block q hq)⟩)
      have KR8 := Lib.hid kr8
      clear f8 b8 kr8 hw7 o0 o1
      go_wp2_with (refine wpList_store_at rfl 32 (.tmp 8) (.tmp 48) rfl ⟨B + 3, 0, none⟩ rfl _ rfl hst ?_)
      refine bodyPost_ret (results_cell_row rfl _ _ (B + 3) _ #[.int .i64 510, .slice p8 Y.length c8] (0, 0) _ rfl (setRow_block KR8.out) Tryd.underlying32 rfl info32s) rfl ?_
      exact ⟨_, rfl, HRES.out⟩
    | true =>
      by_cases hlt : totAt L m < L.length
      · have hK : K = (totAt L m : Nat) := by rw [← HK.out, if_pos hlt]
        obtain ⟨j, ej⟩ : ∃ j, totAt L m = j := ⟨_, rfl⟩
        rw [ej] at hlt hK
        subst hK
        obtain ⟨b, o, rfl, q0, q1, q2, q3, q4, q5⟩ := (HL.out.below HBW.out).get j hlt
        obtain ⟨x, ex⟩ : ∃ x, L[j] = x := ⟨_, rfl⟩
        have hhit : hitB L (totOf m (readR ty F).1) = decide (x = (m, a0, a1, a2, a3, a4)) := by
          unfold hitB
          rw [HRL.out, show (totOf m [a0, a1, a2, a3, a4]).1 = m from rfl, ej, List.getElem?_eq_getElem hlt, ex]
          rfl
        rw [ex] at q0 q1 q2 q3 q4 q5
        obtain ⟨hb, ehb⟩ : ∃ hb, decide (x = (m, a0, a1, a2, a3, a4)) = hb := ⟨_, rfl⟩
        have hq := fun W => eq_tot x (m, a0, a1, a2, a3, a4) W
        rw [ehb] at hhit hq
        clear ehb
        obtain ⟨x0, x1, x2, x3, x4, x5⟩ := x
        simp only [totA] at hq
        have t0 : w7.cell? ⟨T, 0, none⟩ = some (.int .i64 m) := cells_at KTW.out 0
        have t1 : w7.cell? ⟨T, 1, none⟩ = some (.int .i64 a0) := cells_at KTW.out 1
        have t2 : w7.cell? ⟨T, 2, none⟩ = some (.int .i64 a1) := cells_at KTW.out 2
        have t3 : w7.cell? ⟨T, 3, none⟩ = some (.int .i64 a2) := cells_at KTW.out 3
        have t4 : w7.cell? ⟨T, 4, none⟩ = some (.int .i64 a3) := cells_at KTW.out 4
        have t5 : w7.cell? ⟨T, 5, none⟩ = some (.int .i64 a4) := cells_at KTW.out 5
        have hj1 : (j : Int) < L.length := by omega
        have hj0 : decide ((0 : Int) ≤ j) = true := by simp
        have HHIT2 := Lib.hid hhit
        have HLT := Lib.hid hlt
        clear ej ex hhit hlt
        go_wp2_with fail
        rw [ET.out]
        go_quiet (fail)
        obtain ⟨w9, e9⟩ : ∃ W, w7.drewN nq = W := ⟨_, rfl⟩
        rw [e9]
        have bq : Below w7.heap.size w7 w9 := by rw [← e9]; exact drewN_base _ _
        have OW9 := Lib.hid ((bq.block w2.heap.size (by have := HSW.out; omega)).trans OW.out)
        have HRW9 := Lib.hid ((bq.block (B + 3) (by have := S2.out; have := HSW.out; omega)).trans HRW.out)
        have HFW9 := Lib.hid (HFW.out.below bq)
        have HBW9 := Lib.hid (HBW.out.trans (bq.mono HBW.out.size))
        have HSW9 := Lib.hid (Nat.le_trans HSW.out bq.size)
        clear bq e9
        clear dw0 t0 t1 t2 t3 t4 t5 q0 q1 q2 q3 q4 q5 hq
        cases hb with
        | false =>
          have HANS := Lib.hid (show ansOf ty F m true L = ⟨#[57, 53]⟩ by rw [HHIT.out, HHIT2.out]; rfl)
          have o0 : w9.cell? ⟨w2.heap.size, 0, none⟩ = some (.int .i64 510) := cells_at OW9.out 0
          have o1 : w9.cell? ⟨w2.heap.size, 1, none⟩ = some (.slice po X.length co) := cells_at OW9.out 1
          have HSET := Lib.hid (set_any (HFW9.out.fs (by have := HXL.out; simp only [maxLen]; omega)) (by have := HXL.out; omega) 510 39 ⟨#[57, 53]⟩)
          have HAN := Lib.hid (show answerM ty F m true L = setM X 39 ⟨#[57, 53]⟩ by unfold answerM; rw [HX.out, HANS.out])
          obtain ⟨Y, eY⟩ : ∃ Y, setM X 39 ⟨#[57, 53]⟩ = Y := ⟨_, rfl⟩
          rw [eY] at HSET HAN
          clear eY
          go_wp2_with fail
          refine HSET.out.mono ?_
          rintro e w8 ⟨v8, rfl, f8, b8⟩
          obtain ⟨p8, c8, rfl, _, _⟩ := f8.buf.shape
          have hw7 : w2.heap.size + 1 ≤ w9.heap.size := HSW9.out
          have kr8 := (b8.block (B + 3) (by have := S2.out; omega)).trans HRW9.out
          have hst := store_all (ty := 32) kr8 info32s rfl #[.int .i64 510, .slice p8 Y.length c8] rfl rfl
          have HRES := Lib.hid (show FBuf w.heap.size (w8.setRow (B + 3) #[.int .i64 510, .slice p8 Y.length c8]) (.slice p8 Y.length c8) (answerM ty F m true L) ∧ Below w.heap.size w (w8.setRow (B + 3) #[.int .i64 510, .slice p8 Y.length c8]) by
            rw [HAN.out]
            have hb8 := HBW9.out.trans (b8.mono HBW9.out.size)
            refine ⟨⟨f8.buf.kept fun q hq => setRow_other _ _ q _ (by have := f8.new q hq; have := S2.out; omega), fun q hq => by have := f8.new q hq; have := S2.out; have := EB.out; omega⟩, hb8.os, hb8.tape, hb8.output, by have h9 := hb8.size; simpa using h9, fun q hq => (setRow_other _ _ q _ (by have := EB.out; omega)).trans (hb8.block q hq)⟩)
          have KR8 := Lib.hid kr8
          clear f8 b8 kr8 hw7 o0 o1
          go_wp2_with (refine wpList_store_at rfl 32 (.tmp 8) (.tmp 48) rfl ⟨B + 3, 0, none⟩ rfl _ rfl hst ?_)
          refine bodyPost_ret (results_cell_row rfl _ _ (B + 3) _ #[.int .i64 510, .slice p8 Y.length c8] (0, 0) _ rfl (setRow_block KR8.out) Tryd.underlying32 rfl info32s) rfl ?_
          exact ⟨_, rfl, HRES.out⟩
        | true =>
          have HANS := Lib.hid (show ansOf ty F m true L = ⟨#[48, 48]⟩ by rw [HHIT.out, HHIT2.out]; rfl)
          have o0 : w9.cell? ⟨w2.heap.size, 0, none⟩ = some (.int .i64 510) := cells_at OW9.out 0
          have o1 : w9.cell? ⟨w2.heap.size, 1, none⟩ = some (.slice po X.length co) := cells_at OW9.out 1
          have HSET := Lib.hid (set_any (HFW9.out.fs (by have := HXL.out; simp only [maxLen]; omega)) (by have := HXL.out; omega) 510 39 ⟨#[48, 48]⟩)
          have HAN := Lib.hid (show answerM ty F m true L = setM X 39 ⟨#[48, 48]⟩ by unfold answerM; rw [HX.out, HANS.out])
          obtain ⟨Y, eY⟩ : ∃ Y, setM X 39 ⟨#[48, 48]⟩ = Y := ⟨_, rfl⟩
          rw [eY] at HSET HAN
          clear eY
          go_wp2_with fail
          refine HSET.out.mono ?_
          rintro e w8 ⟨v8, rfl, f8, b8⟩
          obtain ⟨p8, c8, rfl, _, _⟩ := f8.buf.shape
          have hw7 : w2.heap.size + 1 ≤ w9.heap.size := HSW9.out
          have kr8 := (b8.block (B + 3) (by have := S2.out; omega)).trans HRW9.out
          have hst := store_all (ty := 32) kr8 info32s rfl #[.int .i64 510, .slice p8 Y.length c8] rfl rfl
          have HRES := Lib.hid (show FBuf w.heap.size (w8.setRow (B + 3) #[.int .i64 510, .slice p8 Y.length c8]) (.slice p8 Y.length c8) (answerM ty F m true L) ∧ Below w.heap.size w (w8.setRow (B + 3) #[.int .i64 510, .slice p8 Y.length c8]) by
            rw [HAN.out]
            have hb8 := HBW9.out.trans (b8.mono HBW9.out.size)
            refine ⟨⟨f8.buf.kept fun q hq => setRow_other _ _ q _ (by have := f8.new q hq; have := S2.out; omega), fun q hq => by have := f8.new q hq; have := S2.out; have := EB.out; omega⟩, hb8.os, hb8.tape, hb8.output, by have h9 := hb8.size; simpa using h9, fun q hq => (setRow_other _ _ q _ (by have := EB.out; omega)).trans (hb8.block q hq)⟩)
          have KR8 := Lib.hid kr8
          clear f8 b8 kr8 hw7 o0 o1
          go_wp2_with (refine wpList_store_at rfl 32 (.tmp 8) (.tmp 48) rfl ⟨B + 3, 0, none⟩ rfl _ rfl hst ?_)
          refine bodyPost_ret (results_cell_row rfl _ _ (B + 3) _ #[.int .i64 510, .slice p8 Y.length c8] (0, 0) _ rfl (setRow_block KR8.out) Tryd.underlying32 rfl info32s) rfl ?_
          exact ⟨_, rfl, HRES.out⟩
      · have hK : K = -1 := by rw [← HK.out, if_neg hlt]
        subst hK
        have HANS := Lib.hid (show ansOf ty F m true L = ⟨#[57, 53]⟩ by
          rw [HHIT.out]
          unfold hitB
          rw [show (totOf m (readR ty F).1).1 = m from rfl, List.getElem?_eq_none (by omega)]
          rfl)
        have hj0 : decide ((0 : Int) ≤ -1) = false := by decide
        go_wp2_with fail
        go_quiet (fail)
        obtain ⟨w9, e9⟩ : ∃ W, w7.drewN nq = W := ⟨_, rfl⟩
        rw [e9]
        have bq : Below w7.heap.size w7 w9 := by rw [← e9]; exact drewN_base _ _
        have OW9 := Lib.hid ((bq.block w2.heap.size (by have := HSW.out; omega)).trans OW.out)
        have HRW9 := Lib.hid ((bq.block (B + 3) (by have := S2.out; have := HSW.out; omega)).trans HRW.out)
        have HFW9 := Lib.hid (HFW.out.below bq)
        have HBW9 := Lib.hid (HBW.out.trans (bq.mono HBW.out.size))
        have HSW9 := Lib.hid (Nat.le_trans HSW.out bq.size)
        clear bq e9
        clear dw0
        have o0 : w9.cell? ⟨w2.heap.size, 0, none⟩ = some (.int .i64 510) := cells_at OW9.out 0
        have o1 : w9.cell? ⟨w2.heap.size, 1, none⟩ = some (.slice po X.length co) := cells_at OW9.out 1
        have HSET := Lib.hid (set_any (HFW9.out.fs (by have := HXL.out; simp only [maxLen]; omega)) (by have := HXL.out; omega) 510 39 ⟨#[57, 53]⟩)
        have HAN := Lib.hid (show answerM ty F m true L = setM X 39 ⟨#[57, 53]⟩ by unfold answerM; rw [HX.out, HANS.out])
        obtain ⟨Y, eY⟩ : ∃ Y, setM X 39 ⟨#[57, 53]⟩ = Y := ⟨_, rfl⟩
        rw [eY] at HSET HAN
        clear eY
        go_wp2_with fail
        refine HSET.out.mono ?_
        rintro e w8 ⟨v8, rfl, f8, b8⟩
        obtain ⟨p8, c8, rfl, _, _⟩ := f8.buf.shape
        have hw7 : w2.heap.size + 1 ≤ w9.heap.size := HSW9.out
        have kr8 := (b8.block (B + 3) (by have := S2.out; omega)).trans HRW9.out
        have hst := store_all (ty := 32) kr8 info32s rfl #[.int .i64 510, .slice p8 Y.length c8] rfl rfl
        have HRES := Lib.hid (show FBuf w.heap.size (w8.setRow (B + 3) #[.int .i64 510, .slice p8 Y.length c8]) (.slice p8 Y.length c8) (answerM ty F m true L) ∧ Below w.heap.size w (w8.setRow (B + 3) #[.int .i64 510, .slice p8 Y.length c8]) by
          rw [HAN.out]
          have hb8 := HBW9.out.trans (b8.mono HBW9.out.size)
          refine ⟨⟨f8.buf.kept fun q hq => setRow_other _ _ q _ (by have := f8.new q hq; have := S2.out; omega), fun q hq => by have := f8.new q hq; have := S2.out; have := EB.out; omega⟩, hb8.os, hb8.tape, hb8.output, by have h9 := hb8.size; simpa using h9, fun q hq => (setRow_other _ _ q _ (by have := EB.out; omega)).trans (hb8.block q hq)⟩)
        have KR8 := Lib.hid kr8
        clear f8 b8 kr8 hw7 o0 o1
        go_wp2_with (refine wpList_store_at rfl 32 (.tmp 8) (.tmp 48) rfl ⟨B + 3, 0, none⟩ rfl _ rfl hst ?_)
        refine bodyPost_ret (results_cell_row rfl _ _ (B + 3) _ #[.int .i64 510, .slice p8 Y.length c8] (0, 0) _ rfl (setRow_block KR8.out) Tryd.underlying32 rfl info32s) rfl ?_
        exact ⟨_, rfl, HRES.out⟩
  · have hre' : (decide (re = 0)) = false := by simpa using hre
    have HANS := Lib.hid (show ansOf ty F m closed L = ⟨#[51, 48]⟩ by unfold ansOf; rw [HRE.out, if_pos hre])
    have o0 : w7.cell? ⟨w2.heap.size, 0, none⟩ = some (.int .i64 510) := cells_at OW.out 0
    have o1 : w7.cell? ⟨w2.heap.size, 1, none⟩ = some (.slice po X.length co) := cells_at OW.out 1
    have HSET := Lib.hid (set_any (HFW.out.fs (by have := HXL.out; simp only [maxLen]; omega)) (by have := HXL.out; omega) 510 39 ⟨#[51, 48]⟩)
    have HAN := Lib.hid (show answerM ty F m closed L = setM X 39 ⟨#[51, 48]⟩ by unfold answerM; rw [HX.out, HANS.out])
    obtain ⟨Y, eY⟩ : ∃ Y, setM X 39 ⟨#[51, 48]⟩ = Y := ⟨_, rfl⟩
    rw [eY] at HSET HAN
    clear eY
    go_wp2_with fail
    refine HSET.out.mono ?_
    rintro e w8 ⟨v8, rfl, f8, b8⟩
    obtain ⟨p8, c8, rfl, _, _⟩ := f8.buf.shape
    have hw7 : w2.heap.size + 1 ≤ w7.heap.size := HSW.out
    have kr8 := (b8.block (B + 3) (by have := S2.out; omega)).trans HRW.out
    have hst := store_all (ty := 32) kr8 info32s rfl #[.int .i64 510, .slice p8 Y.length c8] rfl rfl
    have HRES := Lib.hid (show FBuf w.heap.size (w8.setRow (B + 3) #[.int .i64 510, .slice p8 Y.length c8]) (.slice p8 Y.length c8) (answerM ty F m closed L) ∧ Below w.heap.size w (w8.setRow (B + 3) #[.int .i64 510, .slice p8 Y.length c8]) by
      rw [HAN.out]
      have hb8 := HBW.out.trans (b8.mono HBW.out.size)
      refine ⟨⟨f8.buf.kept fun q hq => setRow_other _ _ q _ (by have := f8.new q hq; have := S2.out; omega), fun q hq => by have := f8.new q hq; have := S2.out; have := EB.out; omega⟩, hb8.os, hb8.tape, hb8.output, by have h9 := hb8.size; simpa using h9, fun q hq => (setRow_other _ _ q _ (by have := EB.out; omega)).trans (hb8.block q hq)⟩)
    have KR8 := Lib.hid kr8
    clear f8 b8 kr8 hw7 o0 o1
    go_wp2_with (refine wpList_store_at rfl 32 (.tmp 8) (.tmp 48) rfl ⟨B + 3, 0, none⟩ rfl _ rfl hst ?_)
    refine bodyPost_ret (results_cell_row rfl _ _ (B + 3) _ #[.int .i64 510, .slice p8 Y.length c8] (0, 0) _ rfl (setRow_block KR8.out) Tryd.underlying32 rfl info32s) rfl ?_
    exact ⟨_, rfl, HRES.out⟩
end Go.Proofs.YtjndfmpicnkplaaDoor.msgw
