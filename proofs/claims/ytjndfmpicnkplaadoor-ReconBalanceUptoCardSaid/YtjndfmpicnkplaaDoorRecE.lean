/- Layer 20: a number with its sign; Ask. Conditions: as each theorem says. -/
import Derived.Test.YtjndfmpicnkplaaDoorRecB
namespace Go.Proofs.YtjndfmpicnkplaaDoor.msgw
open Go.RowKit
open Go.Proofs.YtjndfmpicnkplaaDoor.msgp
open Go.Proofs.YtjndfmpicnkplaaDoor.buf
open Go.Proofs.YtjndfmpicnkplaaDoor.fieldp
open Go.Proofs.YtjndfmpicnkplaaDoor.fieldw
/-- A number as a letter and digits. -/
def signedR (n size : Int) : ByteArray × Int := if n < 0 then (⟨#[68]⟩ ++ (digitsR (wrap64 (-n)) size).1, (digitsR (wrap64 (-n)) size).2) else (⟨#[67]⟩ ++ (digitsR n size).1, (digitsR n size).2)
theorem digitsR_size (n size : Int) : (digitsR n size).1.size ≤ 18 := by
  unfold digitsR
  split
  · decide
  · split
    · decide
    · rename_i h _
      show (digL n.toNat size.toNat).toArray.size ≤ 18
      rw [List.size_toArray, digL_length]
      omega
theorem signed_any (n size : Int) (w : World) (hr : -9223372036854775808 ≤ n ∧ n ≤ 9223372036854775807) :
    Calls Tryd.prog 12 #[.int .i64 n, .int .i64 size] w fun e w' => e = .returned (.tuple #[.string (signedR n size).1, .int .i64 (signedR n size).2]) ∧ Below w.heap.size w w' := by
  by_cases hn : n < 0
  · have hd : (decide (n < 0)) = true := by simpa using hn
    have hw : -9223372036854775808 ≤ wrap64 (-n) ∧ wrap64 (-n) ≤ 9223372036854775807 := by unfold wrap64; omega
    have HD := Lib.hid (digits_any (wrap64 (-n)) size w hw)
    have hsz := digitsR_size (wrap64 (-n)) size
    obtain ⟨R, eR⟩ : ∃ R, digitsR (wrap64 (-n)) size = R := ⟨_, rfl⟩
    rw [eR] at HD hsz
    have HR := Lib.hid (show signedR n size = (⟨#[68]⟩ ++ R.1, R.2) by unfold signedR; rw [if_pos hn, eR])
    obtain ⟨s, e⟩ := R
    obtain ⟨y, ey⟩ : ∃ y, wrap64 (-n) = y := ⟨_, rfl⟩
    rw [ey] at HD
    clear eR hw hn
    go_enter Tryd.func12, Tryd.ntmps12
    go_wp2_with fail
    refine HD.out.mono ?_
    rintro e w1 ⟨rfl, b1⟩
    have HB := Lib.hid b1
    clear b1
    go_wp2_with fail
    go_ret2
    exact ⟨by rw [HR.out]; rfl, HB.out⟩
  · have hd : (decide (n < 0)) = false := by simpa using hn
    have HD := Lib.hid (digits_any n size w hr)
    have hsz := digitsR_size n size
    obtain ⟨R, eR⟩ : ∃ R, digitsR n size = R := ⟨_, rfl⟩
    rw [eR] at HD hsz
    have HR := Lib.hid (show signedR n size = (⟨#[67]⟩ ++ R.1, R.2) by unfold signedR; rw [if_neg hn, eR])
    obtain ⟨s, e⟩ := R
    clear eR hn
    go_enter Tryd.func12, Tryd.ntmps12
    go_wp2_with fail
    refine HD.out.mono ?_
    rintro e w1 ⟨rfl, b1⟩
    have HB := Lib.hid b1
    clear b1
    go_wp2_with fail
    go_ret2
    exact ⟨by rw [HR.out]; rfl, HB.out⟩
/-- Numbers that are told in digits: number, size, what it is. -/
def digF : List Shp → Flds → Option Flds
  | [], F => some F
  | x :: r, F => if (digitsR x.2.2 x.2.1).2 = 0 then digF r (setM F x.1 (digitsR x.2.2 x.2.1).1) else none
abbrev Five := Int × Int × Int × Int × Int
def items (t : Five) : List Shp := [(74, 10, t.1), (76, 10, t.2.1), (86, 16, t.2.2.1), (88, 16, t.2.2.2.1)]
def head3 (code when stan : ByteArray) : Flds := setM (setM (setM [] 7 when) 11 stan) 32 code
/-- The fields of a statement, before they are checked. -/
def askF (code when stan : ByteArray) (t : Five) : Option Flds := (digF (items t) (head3 code when stan)).bind fun F => if (signedR t.2.2.2.2 16).2 = 0 then some (setM F 97 (signedR t.2.2.2.2 16).1) else none
def okI (n : Int) : Prop := -9223372036854775808 ≤ n ∧ n ≤ 9223372036854775807
theorem digF_len : ∀ (xs : List Shp) (F G : Flds), digF xs F = some G → G.length ≤ F.length + xs.length
  | [], F, G, h => by simp only [digF, Option.some.injEq] at h; subst h; simp
  | x :: r, F, G, h => by
    unfold digF at h
    split at h
    · have h1 := digF_len r _ G h
      have h2 := setM_len F x.1 (digitsR x.2.2 x.2.1).1
      rw [List.length_cons]
      omega
    · cases h
/-- What Check says of the fields that Ask makes: what is asked of Check. -/
def CheckAt (F : Flds) : Prop := ∀ (w : World) (v : Value), FsAt w v F → Tabs w → ∃ z : Int, (z = 0 ↔ errF 0 F = none) ∧ Calls Tryd.prog 13 #[.agg #[.int .i64 500, v]] w fun e w' => e = .returned (.int .i64 z) ∧ Below w.heap.size w w'
/-- What Ask answers. -/
def askR (code when stan : ByteArray) (t : Five) : Option Flds := (askF code when stan t).bind fun F => if errF 0 F = none then some F else none
/-- Where Ask stands: the total at B, what is answered at B + 1, the message at B + 2. -/
structure AskSt (w : World) (B : Nat) (R : Array Value) (W : World) (vo : Value) (F : Flds) : Prop where
  bel : Below w.heap.size w W
  eb : w.heap.size = B
  size : B + 3 ≤ W.heap.size
  tot : W.heap[B]? = some (.cells R 23 (0, 0))
  res : W.heap[B + 1]? = some (.cells #[.int .i64 0, .slice none 0 0] 32 (0, 0))
  msg : W.heap[B + 2]? = some (.cells #[.int .i64 500, vo] 32 (0, 0))
  fs : FBuf (B + 3) W vo F
theorem AskSt.below {w W W' : World} {B : Nat} {R : Array Value} {vo : Value} {F : Flds} (h : AskSt w B R W vo F) (b : Below W.heap.size W W') : AskSt w B R W' vo F :=
  ⟨h.bel.trans (b.mono h.bel.size), h.eb, Nat.le_trans h.size b.size, (b.block B (by have := h.size; omega)).trans h.tot, (b.block (B + 1) (by have := h.size; omega)).trans h.res, (b.block (B + 2) (by have := h.size; omega)).trans h.msg, h.fs.below b⟩
theorem AskSt.set {w W W' : World} {B : Nat} {R : Array Value} {vo v' : Value} {F G : Flds} (h : AskSt w B R W vo F) (b : Below W.heap.size W W') (f : FBuf W.heap.size W' v' G) : AskSt w B R (W'.setRow (B + 2) #[.int .i64 500, v']) v' G := by
  have h1 := h.below b
  have hs := h.size
  have hb := h1.eb
  exact ⟨⟨h1.bel.os, h1.bel.tape, h1.bel.output, by have := h1.bel.size; simpa using this, fun q hq => (setRow_other _ _ q _ (by omega)).trans (h1.bel.block q hq)⟩, h1.eb, by have := h1.size; simpa using this,
    (setRow_other _ _ B _ (by omega)).trans h1.tot, (setRow_other _ _ (B + 1) _ (by omega)).trans h1.res, setRow_block h1.msg,
    f.buf.kept fun q hq => setRow_other _ _ q _ (by have := f.new q hq; omega), fun q hq => by have := f.new q hq; omega⟩
theorem AskSt.store {w W : World} {B : Nat} {R : Array Value} {vo : Value} {F : Flds} (h : AskSt w B R W vo F) (p : Option Addr) (n c : Nat) :
    (storeVar 32 ⟨B + 2, 0, none⟩ (.agg #[.int .i64 500, .slice p n c])).run Tryd.prog W = .ok () (W.setRow (B + 2) #[.int .i64 500, .slice p n c]) := by
  obtain ⟨po, co, rfl, _, _⟩ := h.fs.buf.shape
  exact store_all (ty := 32) h.msg info32s rfl #[.int .i64 500, .slice p n c] rfl rfl
theorem AskSt.cells {w W : World} {B : Nat} {R : Array Value} {vo : Value} {F : Flds} (h : AskSt w B R W vo F) : W.cell? ⟨B + 2, 0, none⟩ = some (.int .i64 500) ∧ W.cell? ⟨B + 2, 1, none⟩ = some vo := ⟨cells_at h.msg 0, cells_at h.msg 1⟩
set_option maxHeartbeats 2000000 in
set_option maxRecDepth 100000 in
theorem ask_any {w : World} (hT : Tabs w) (code when stan : ByteArray) (mem : Int) (t : Five) (h0 : okI t.1) (h1 : okI t.2.1) (h2 : okI t.2.2.1) (h3 : okI t.2.2.2.1) (h4 : okI t.2.2.2.2) (hC : ∀ F, askF code when stan t = some F → CheckAt F) :
    Calls Tryd.prog 6 #[.string code, .string when, .string stan, .agg #[.int .i64 mem, .int .i64 t.1, .int .i64 t.2.1, .int .i64 t.2.2.1, .int .i64 t.2.2.2.1, .int .i64 t.2.2.2.2]] w fun e w' =>
      (askR code when stan t = none ∧ e = .returned (.tuple #[.agg #[.int .i64 0, .slice none 0 0], .int .i64 41]) ∧ Below w.heap.size w w') ∨
      ∃ F v, askR code when stan t = some F ∧ e = .returned (.tuple #[.agg #[.int .i64 500, v], .int .i64 0]) ∧ FBuf w.heap.size w' v F ∧ Below w.heap.size w w' := by
  obtain ⟨B, eB⟩ : ∃ b, w.heap.size = b := ⟨_, rfl⟩
  have HAR := Lib.hid (show askR code when stan t = (askF code when stan t).bind fun F => if errF 0 F = none then some F else none from rfl)
  have HAF := Lib.hid (show askF code when stan t = (digF (items t) (head3 code when stan)).bind fun F => if (signedR t.2.2.2.2 16).2 = 0 then some (setM F 97 (signedR t.2.2.2.2 16).1) else none from rfl)
  obtain ⟨IT, eIT⟩ : ∃ l, items t = l := ⟨_, rfl⟩
  have HIT := Lib.hid (show IT = [(74, 10, t.1), (76, 10, t.2.1), (86, 16, t.2.2.1), (88, 16, t.2.2.2.1)] from eIT.symm)
  rw [eIT] at HAF
  obtain ⟨t0, t1, t2, t3, t4⟩ := t
  simp only at HIT HAF h0 h1 h2 h3 h4
  obtain ⟨w0, e0⟩ : ∃ W, ((w.alloc (.cells #[.int .i64 mem, .int .i64 t0, .int .i64 t1, .int .i64 t2, .int .i64 t3, .int .i64 t4] 23)).alloc (.cells #[.int .i64 0, .slice none 0 0] 32)).alloc (.cells #[.int .i64 500, .slice none 0 0] 32) = W := ⟨_, rfl⟩
  have b0 : Below w.heap.size w w0 := by rw [← e0]; exact (((Below.refl _ _).alloc (Nat.le_refl _) _).alloc (by simp) _).alloc (by simp <;> omega) _
  have s0 : w0.heap.size = B + 3 := by rw [← e0, ← eB]; simp
  have kt : w0.heap[B]? = some (.cells #[.int .i64 mem, .int .i64 t0, .int .i64 t1, .int .i64 t2, .int .i64 t3, .int .i64 t4] 23 (0, 0)) := by
    rw [← e0, ← eB, Below.heap_alloc _ _ _ (by simp <;> omega), Below.heap_alloc _ _ _ (by simp)]
    exact heap_alloc_last _ _
  have kr : w0.heap[B + 1]? = some (.cells #[.int .i64 0, .slice none 0 0] 32 (0, 0)) := by
    rw [← e0, ← eB, Below.heap_alloc _ _ _ (by simp)]
    have := heap_alloc_last (w.alloc (.cells #[.int .i64 mem, .int .i64 t0, .int .i64 t1, .int .i64 t2, .int .i64 t3, .int .i64 t4] 23)) (.cells #[.int .i64 0, .slice none 0 0] 32)
    simpa using this
  have ko : w0.heap[B + 2]? = some (.cells #[.int .i64 500, .slice none 0 0] 32 (0, 0)) := by
    rw [← e0, ← eB]
    have := heap_alloc_last ((w.alloc (.cells #[.int .i64 mem, .int .i64 t0, .int .i64 t1, .int .i64 t2, .int .i64 t3, .int .i64 t4] 23)).alloc (.cells #[.int .i64 0, .slice none 0 0] 32)) (.cells #[.int .i64 500, .slice none 0 0] 32)
    simpa using this
  have HB0 := Lib.hid b0
  have S0 := Lib.hid s0
  have KT := Lib.hid kt
  have KR := Lib.hid kr
  have KO := Lib.hid ko
  have E0 := Lib.hid e0
  have EB := Lib.hid eB
  have HT := Lib.hid hT
  have HI := Lib.hid (show okI t0 ∧ okI t1 ∧ okI t2 ∧ okI t3 ∧ okI t4 from ⟨h0, h1, h2, h3, h4⟩)
  have HC := Lib.hid hC
  have A0 := Lib.hid (show AskSt w B #[.int .i64 mem, .int .i64 t0, .int .i64 t1, .int .i64 t2, .int .i64 t3, .int .i64 t4] w0 (.slice none 0 0) [] from ⟨b0, eB, by omega, kt, kr, ko, ⟨rfl, .inl ⟨rfl, .inl rfl⟩⟩, fun g hg => by simp [bufBlock] at hg⟩)
  have HS1 := Lib.hid (set_any (w := w0) (v := .slice none 0 0) (F := []) ⟨by decide, none, 0, rfl, Nat.le_refl _, fun i hi => by simp at hi⟩ (by decide) 500 7 when)
  clear b0 s0 kt kr ko e0 eB hT h0 h1 h2 h3 h4 hC eIT
  go_enter Tryd.func6, Tryd.ntmps6
  go_wp2_with fail
  rw [E0.out]
  refine HS1.out.mono ?_
  rintro e w1 ⟨v1, rfl, f1, b1⟩
  obtain ⟨F1, eF1⟩ : ∃ F, setM [] 7 when = F := ⟨_, rfl⟩
  rw [eF1] at f1
  obtain ⟨p1, c1, rfl, _, _⟩ := f1.buf.shape
  have hst := (A0.out.below b1).store p1 F1.length c1
  have A1 := Lib.hid (A0.out.set b1 f1)
  obtain ⟨w2, e2⟩ : ∃ W, w1.setRow (B + 2) #[.int .i64 500, .slice p1 F1.length c1] = W := ⟨_, rfl⟩
  rw [e2] at A1 hst
  obtain ⟨m0, m1⟩ := A1.out.cells
  have l1 : F1.length ≤ 1 := by rw [← eF1]; exact setM_len [] 7 when
  have HF1 := Lib.hid eF1
  have HL1 := Lib.hid l1
  have HS2 := Lib.hid (set_any (A1.out.fs.fs (by simp only [maxLen]; omega)) (by omega) 500 11 stan)
  clear f1 b1 e2 eF1 l1 A0
  rw [EB.out]
  go_wp2_with (refine wpList_store_at rfl 32 (.tmp 10) (.tmp 20) rfl ⟨B + 2, 0, none⟩ rfl _ rfl hst ?_)
  refine HS2.out.mono ?_
  rintro e w3 ⟨v3, rfl, f3, b3⟩
  clear hst m0 m1 HS1 HS2
  obtain ⟨F2, eF2⟩ : ∃ F, setM F1 11 stan = F := ⟨_, rfl⟩
  rw [eF2] at f3
  obtain ⟨p3, c3, rfl, _, _⟩ := f3.buf.shape
  have hst := (A1.out.below b3).store p3 F2.length c3
  have A2 := Lib.hid (A1.out.set b3 f3)
  obtain ⟨w4, e4⟩ : ∃ W, w3.setRow (B + 2) #[.int .i64 500, .slice p3 F2.length c3] = W := ⟨_, rfl⟩
  rw [e4] at A2 hst
  obtain ⟨m0, m1⟩ := A2.out.cells
  have l2 : F2.length ≤ 2 := by rw [← eF2]; have := setM_len F1 11 stan; have := HL1.out; omega
  have HF2 := Lib.hid eF2
  have HL2 := Lib.hid l2
  have HS3 := Lib.hid (set_any (A2.out.fs.fs (by simp only [maxLen]; omega)) (by omega) 500 32 code)
  clear f3 b3 e4 eF2 l2 A1
  go_wp2_with (refine wpList_store_at rfl 32 (.tmp 10) (.tmp 23) rfl ⟨B + 2, 0, none⟩ rfl _ rfl hst ?_)
  refine HS3.out.mono ?_
  rintro e w5 ⟨v5, rfl, f5, b5⟩
  clear hst m0 m1 HS3
  obtain ⟨F3, eF3⟩ : ∃ F, setM F2 32 code = F := ⟨_, rfl⟩
  rw [eF3] at f5
  obtain ⟨p5, c5, rfl, _, _⟩ := f5.buf.shape
  have hst := (A2.out.below b5).store p5 F3.length c5
  have A3 := Lib.hid (A2.out.set b5 f5)
  obtain ⟨w6, e6⟩ : ∃ W, w5.setRow (B + 2) #[.int .i64 500, .slice p5 F3.length c5] = W := ⟨_, rfl⟩
  rw [e6] at A3 hst
  have l3 : F3.length ≤ 3 := by rw [← eF3]; have := setM_len F2 32 code; have := HL2.out; omega
  have HHD := Lib.hid (show head3 code when stan = F3 by unfold head3; rw [HF1.out, HF2.out, eF3])
  have HL3 := Lib.hid l3
  have t00 : w6.cell? ⟨B, 1, none⟩ = some (.int .i64 t0) := cells_at A3.out.tot 1
  have t01 : w6.cell? ⟨B, 2, none⟩ = some (.int .i64 t1) := cells_at A3.out.tot 2
  have t02 : w6.cell? ⟨B, 3, none⟩ = some (.int .i64 t2) := cells_at A3.out.tot 3
  have t03 : w6.cell? ⟨B, 4, none⟩ = some (.int .i64 t3) := cells_at A3.out.tot 4
  clear f5 b5 e6 eF3 l3 A2
  go_wp2_with (refine wpList_store_at rfl 32 (.tmp 10) (.tmp 26) rfl ⟨B + 2, 0, none⟩ rfl _ rfl hst ?_)
  obtain ⟨Q, eQ⟩ : ∃ n, w6.heap.size = n := ⟨_, rfl⟩
  obtain ⟨w7, e7⟩ : ∃ W, w6.alloc (.cells #[.int .i64 74, .int .i64 10, .int .i64 t0, .int .i64 76, .int .i64 10, .int .i64 t1, .int .i64 86, .int .i64 16, .int .i64 t2, .int .i64 88, .int .i64 16, .int .i64 t3] 47) = W := ⟨_, rfl⟩
  rw [eQ, e7]
  have b7 : Below w6.heap.size w6 w7 := by rw [← e7]; exact (Below.refl _ _).alloc (Nat.le_refl _) _
  have kq : w7.heap[Q]? = some (.cells #[.int .i64 74, .int .i64 10, .int .i64 t0, .int .i64 76, .int .i64 10, .int .i64 t1, .int .i64 86, .int .i64 16, .int .i64 t2, .int .i64 88, .int .i64 16, .int .i64 t3] 47 (0, 0)) := by rw [← e7, ← eQ]; exact heap_alloc_last _ _
  have hQ : B + 3 ≤ Q ∧ Q < w7.heap.size := ⟨by have := A3.out.size; omega, by rw [← e7, ← eQ]; simp⟩
  have A7 := Lib.hid (A3.out.below b7)
  have HQR := Lib.hid hQ
  have KQ := Lib.hid kq
  clear eQ e7 b7 kq hQ t00 t01 t02 t03 A3 hst HL1 HL2 HF1 HF2
  have HIL := Lib.hid (show IT.length = 4 by rw [HIT.out]; rfl)
  have HQC := Lib.hid (fun (W : World) (h : W.heap[Q]? = some (.cells #[.int .i64 74, .int .i64 10, .int .i64 t0, .int .i64 76, .int .i64 10, .int .i64 t1, .int .i64 86, .int .i64 16, .int .i64 t2, .int .i64 88, .int .i64 16, .int .i64 t3] 47 (0, 0))) (k : Nat) (hk : k < IT.length) => show (W.cell? ⟨Q, k * 3, none⟩ = some (.int .i64 IT[k].1) ∧ W.cell? ⟨Q, k * 3 + 1, none⟩ = some (.int .i64 IT[k].2.1) ∧ W.cell? ⟨Q, k * 3 + 2, none⟩ = some (.int .i64 IT[k].2.2)) ∧ okI IT[k].2.2 by
    have h4 : k < 4 := by rw [← HIL.out]; exact hk
    obtain ⟨i0, i1, i2, i3, i4⟩ := HI.out
    have e := HIT.out
    subst e
    have hc : k = 0 ∨ k = 1 ∨ k = 2 ∨ k = 3 := by omega
    rcases hc with rfl | rfl | rfl | rfl
    · exact ⟨⟨cells_at h 0, cells_at h 1, cells_at h 2⟩, i0⟩
    · exact ⟨⟨cells_at h 3, cells_at h 4, cells_at h 5⟩, i1⟩
    · exact ⟨⟨cells_at h 6, cells_at h 7, cells_at h 8⟩, i2⟩
    · exact ⟨⟨cells_at h 9, cells_at h 10, cells_at h 11⟩, i3⟩)
  go_loopw [41] (fun i wr => wr.heap[Q]? = some (.cells #[.int .i64 74, .int .i64 10, .int .i64 t0, .int .i64 76, .int .i64 10, .int .i64 t1, .int .i64 86, .int .i64 16, .int .i64 t2, .int .i64 88, .int .i64 16, .int .i64 t3] 47 (0, 0)) ∧ Q < wr.heap.size ∧ ∃ (k : Nat) (vo : Value) (G : Flds), k ≤ 4 ∧ i = .int .i64 k ∧ AskSt w B #[.int .i64 mem, .int .i64 t0, .int .i64 t1, .int .i64 t2, .int .i64 t3, .int .i64 t4] wr vo G ∧ digF IT F3 = digF (IT.drop k) G ∧ G.length ≤ 3 + k) (fun i _ => 4 - (intOf i).toNat)
  case atStart => exact ⟨KQ.out, HQR.out.2, 0, _, F3, by omega, rfl, A7.out, by rw [List.drop_zero], HL3.out⟩
  case round =>
    obtain ⟨hq, hqs, k, vo, G, hk, rfl, ha, hd, hl⟩ := hrel
    obtain ⟨po, co, rfl, _, _⟩ := ha.fs.buf.shape
    have HA := Lib.hid ha
    have HD := Lib.hid hd
    have HLG := Lib.hid hl
    by_cases hlt : k < 4
    · have hlt' : (k : Int) < 4 := by omega
      have hkl : k < IT.length := by rw [HIL.out]; exact hlt
      obtain ⟨⟨q0, q1, q2⟩, hok⟩ := HQC.out wr hq k hkl
      have hdr : digF (IT.drop k) G = if (digitsR IT[k].2.2 IT[k].2.1).2 = 0 then digF (IT.drop (k + 1)) (setM G IT[k].1 (digitsR IT[k].2.2 IT[k].2.1).1) else none := by
        rw [List.drop_eq_getElem_cons hkl]; rfl
      obtain ⟨x, ex⟩ : ∃ x, IT[k] = x := ⟨_, rfl⟩
      rw [ex] at q0 q1 q2 hok hdr
      obtain ⟨no, sz, n⟩ := x
      obtain ⟨w8, e8⟩ : ∃ W, wr.alloc (.cells #[.int .i64 no, .int .i64 sz, .int .i64 n] 47) = W := ⟨_, rfl⟩
      have b8 : Below wr.heap.size wr w8 := by rw [← e8]; exact (Below.refl _ _).alloc (Nat.le_refl _) _
      have k8 := box_row wr #[.int .i64 no, .int .i64 sz, .int .i64 n] 47
      have HDG := Lib.hid (digits_any n sz w8 hok)
      obtain ⟨DR, eDR⟩ : ∃ r, digitsR n sz = r := ⟨_, rfl⟩
      simp only [eDR] at hdr
      rw [eDR] at HDG
      obtain ⟨s, er⟩ := DR
      have HDR := Lib.hid hdr
      have A8 := Lib.hid (ha.below b8)
      have q8 : w8.heap[Q]? = _ := (b8.block Q hqs).trans hq
      have HQ8 := Lib.hid q8
      have HS8 := Lib.hid (Nat.lt_of_lt_of_le hqs b8.size)
      have HE8 := Lib.hid e8
      have x0 := cells_at k8 0
      have x1 := cells_at k8 1
      have x2 := cells_at k8 2
      have x80 : w8.cell? ⟨wr.heap.size, 0, none⟩ = some (.int .i64 no) := by rw [← e8]; exact x0
      have XC := Lib.hid x80
      clear ex hdr eDR b8 k8 e8 q8 ha hd hl hq hqs hkl hok x80
      go_wp2_with fail
      rw [HE8.out]
      refine HDG.out.mono ?_
      rintro e w9 ⟨rfl, b9⟩
      have A9 := Lib.hid (A8.out.below b9)
      have HQ9 := Lib.hid ((b9.block Q HS8.out).trans HQ8.out)
      have HS9 := Lib.hid (Nat.lt_of_lt_of_le HS8.out b9.size)
      have x9 := b9.keptCell XC.out
      clear x0 x1 x2 q0 q1 q2 b9
      by_cases hz : er = 0
      · subst hz
        obtain ⟨m0, m1⟩ := A9.out.cells
        have hGl : G.length ≤ 7 := by have := HLG.out; omega
        have HSET := Lib.hid (set_any (A9.out.fs.fs (by simp only [maxLen]; omega)) (by omega) 500 no s)
        clear hGl
        go_wp2_with fail
        refine HSET.out.mono ?_
        rintro e w10 ⟨v10, rfl, f10, b10⟩
        obtain ⟨p10, c10, rfl, _, _⟩ := f10.buf.shape
        have hst := (A9.out.below b10).store p10 (setM G no s).length c10
        have A10 := Lib.hid (A9.out.set b10 f10)
        have HQ10 := Lib.hid ((setRow_other w10 (B + 2) Q #[.int .i64 500, .slice p10 (setM G no s).length c10] (by have := HQR.out; omega)).trans ((b10.block Q HS9.out).trans HQ9.out))
        have HS10 := Lib.hid (Nat.lt_of_lt_of_le HS9.out b10.size)
        have HRD := Lib.hid (show digF IT F3 = digF (IT.drop (k + 1)) (setM G no s) by rw [HD.out, HDR.out, if_pos trivial])
        have HLN := Lib.hid (show (setM G no s).length ≤ 3 + (k + 1) by have := setM_len G no s; have := HLG.out; omega)
        clear f10 b10 m0 m1 x9
        go_wp2_with (refine wpList_store_at rfl 32 (.tmp 10) (.tmp 60) rfl ⟨B + 2, 0, none⟩ rfl _ rfl hst ?_)
        go_roundw
        case rel => exact ⟨HQ10.out, by simpa using HS10.out, k + 1, _, _, by omega, by go_num, A10.out, HRD.out, HLN.out⟩
        case measure => simp [intOf]; omega
      · have HNO := Lib.hid (show askR code when stan (t0, t1, t2, t3, t4) = none by rw [HAR.out, HAF.out, HHD.out, HD.out, HDR.out, if_neg hz]; rfl)
        have hz' : decide (er = 0) = false := by simpa using hz
        have hst9 := store_all (ty := 32) (A9.out.res) info32s rfl #[.int .i64 0, .slice none 0 0] rfl rfl
        have HRS := Lib.hid (A9.out.res)
        have HBL := Lib.hid (A9.out.bel)
        go_wp2_with (refine wpList_store_at rfl 32 (.tmp 8) (.tmp 55) rfl ⟨B + 1, 0, none⟩ rfl _ rfl hst9 ?_)
        refine bodyPost_ret (Go.Proofs.YtjndfmpicnkplaaDoorW.PrintWords.results_ct rfl _ _ (B + 1) _ #[.int .i64 0, .slice none 0 0] (0, 0) _ rfl (setRow_block HRS.out) Tryd.underlying32 rfl info32s) rfl ?_
        exact .inl ⟨HNO.out, rfl, HBL.out.os, HBL.out.tape, HBL.out.output, by have h9 := HBL.out.size; simpa using h9, fun q hq => (setRow_other _ _ q _ (by have := EB.out; omega)).trans (HBL.out.block q hq)⟩
    · obtain rfl : k = 4 := by omega
      have hdd : digF IT F3 = some G := by rw [hd, List.drop_of_length_le (by rw [HIL.out]; exact Nat.le_refl 4)]; rfl
      have HDD := Lib.hid hdd
      have t5 : wr.cell? ⟨B, 5, none⟩ = some (.int .i64 t4) := cells_at ha.tot 5
      have HSG := Lib.hid (signed_any t4 16 wr HI.out.2.2.2.2)
      obtain ⟨SR, eSR⟩ : ∃ r, signedR t4 16 = r := ⟨_, rfl⟩
      have HAF2 := Lib.hid (show askF code when stan (t0, t1, t2, t3, t4) = if SR.2 = 0 then some (setM G 97 SR.1) else none by rw [HAF.out, HHD.out, HDD.out, Option.bind_some]; simp only [eSR])
      rw [eSR] at HSG
      obtain ⟨s, er⟩ := SR
      clear eSR hdd hd hl ha hq hqs HAF HD
      go_wp2_with fail
      refine HSG.out.mono ?_
      rintro e w9 ⟨rfl, b9⟩
      have A9 := Lib.hid (HA.out.below b9)
      clear b9 t5
      by_cases hz : er = 0
      · subst hz
        obtain ⟨m0, m1⟩ := A9.out.cells
        have hGl : G.length ≤ 7 := HLG.out
        have HSET := Lib.hid (set_any (A9.out.fs.fs (by simp only [maxLen]; omega)) (by omega) 500 97 s)
        have HFF := Lib.hid (show askF code when stan (t0, t1, t2, t3, t4) = some (setM G 97 s) by rw [HAF2.out, if_pos rfl])
        have HGL := Lib.hid (show (setM G 97 s).length ≤ 8 by have := setM_len G 97 s; omega)
        obtain ⟨Y, eY⟩ : ∃ Y, setM G 97 s = Y := ⟨_, rfl⟩
        rw [eY] at HSET HFF HGL
        clear hGl eY
        go_wp2_with fail
        refine HSET.out.mono ?_
        rintro e w10 ⟨v10, rfl, f10, b10⟩
        obtain ⟨p10, c10, rfl, _, _⟩ := f10.buf.shape
        have hst := (A9.out.below b10).store p10 Y.length c10
        have A10 := Lib.hid (A9.out.set b10 f10)
        obtain ⟨w11, e11⟩ : ∃ W, w10.setRow (B + 2) #[.int .i64 500, .slice p10 Y.length c10] = W := ⟨_, rfl⟩
        rw [e11] at A10 hst
        clear f10 b10 m0 m1 e11
        obtain ⟨m0, m1⟩ := A10.out.cells
        obtain ⟨z, hz1, hz2⟩ := HC.out Y HFF.out w11 _ (A10.out.fs.fs (by have := HGL.out; simp only [maxLen]; omega)) (HT.out.below A10.out.bel)
        have HZ := Lib.hid hz1
        have HCK := Lib.hid hz2
        clear hz1 hz2
        go_wp2_with (refine wpList_store_at rfl 32 (.tmp 10) (.tmp 73) rfl ⟨B + 2, 0, none⟩ rfl _ rfl hst ?_)
        refine HCK.out.mono ?_
        rintro e w12 ⟨rfl, b12⟩
        have A12 := Lib.hid (A10.out.below b12)
        clear b12 m0 m1 hst
        by_cases hz3 : z = 0
        · subst hz3
          obtain ⟨m0, m1⟩ := A12.out.cells
          have HYES := Lib.hid (show askR code when stan (t0, t1, t2, t3, t4) = some Y by rw [HAR.out, HFF.out, Option.bind_some, if_pos (HZ.out.1 rfl)])
          have hst9 := store_all (ty := 32) A12.out.res info32s rfl #[.int .i64 500, .slice p10 Y.length c10] rfl rfl
          have HRS := Lib.hid A12.out.res
          have HBL := Lib.hid A12.out.bel
          have HFB := Lib.hid (show FBuf w.heap.size (w12.setRow (B + 1) #[.int .i64 500, .slice p10 Y.length c10]) (.slice p10 Y.length c10) Y from ⟨A12.out.fs.buf.kept fun q hq => setRow_other _ _ q _ (by have := A12.out.fs.new q hq; omega), fun q hq => by have := A12.out.fs.new q hq; have := EB.out; omega⟩)
          go_wp2_with (refine wpList_store_at rfl 32 (.tmp 8) (.tmp 78) rfl ⟨B + 1, 0, none⟩ rfl _ rfl hst9 ?_)
          refine bodyPost_ret (Go.Proofs.YtjndfmpicnkplaaDoorW.PrintWords.results_ct rfl _ _ (B + 1) _ #[.int .i64 500, .slice p10 Y.length c10] (0, 0) _ rfl (setRow_block HRS.out) Tryd.underlying32 rfl info32s) rfl ?_
          exact .inr ⟨Y, _, HYES.out, rfl, HFB.out, HBL.out.os, HBL.out.tape, HBL.out.output, by have h9 := HBL.out.size; simpa using h9, fun q hq => (setRow_other _ _ q _ (by have := EB.out; omega)).trans (HBL.out.block q hq)⟩
        · have HNO := Lib.hid (show askR code when stan (t0, t1, t2, t3, t4) = none by rw [HAR.out, HFF.out, Option.bind_some, if_neg (fun h => hz3 (HZ.out.2 h))])
          have hz' : decide (z = 0) = false := by simpa using hz3
          have hst9 := store_all (ty := 32) (A12.out.res) info32s rfl #[.int .i64 0, .slice none 0 0] rfl rfl
          have HRS := Lib.hid (A12.out.res)
          have HBL := Lib.hid (A12.out.bel)
          go_wp2_with (refine wpList_store_at rfl 32 (.tmp 8) (.tmp 77) rfl ⟨B + 1, 0, none⟩ rfl _ rfl hst9 ?_)
          refine bodyPost_ret (Go.Proofs.YtjndfmpicnkplaaDoorW.PrintWords.results_ct rfl _ _ (B + 1) _ #[.int .i64 0, .slice none 0 0] (0, 0) _ rfl (setRow_block HRS.out) Tryd.underlying32 rfl info32s) rfl ?_
          exact .inl ⟨HNO.out, rfl, HBL.out.os, HBL.out.tape, HBL.out.output, by have h9 := HBL.out.size; simpa using h9, fun q hq => (setRow_other _ _ q _ (by have := EB.out; omega)).trans (HBL.out.block q hq)⟩
      · have HNO := Lib.hid (show askR code when stan (t0, t1, t2, t3, t4) = none by rw [HAR.out, HAF2.out, if_neg hz]; rfl)
        have hz' : decide (er = 0) = false := by simpa using hz
        have hst9 := store_all (ty := 32) (A9.out.res) info32s rfl #[.int .i64 0, .slice none 0 0] rfl rfl
        have HRS := Lib.hid (A9.out.res)
        have HBL := Lib.hid (A9.out.bel)
        go_wp2_with (refine wpList_store_at rfl 32 (.tmp 8) (.tmp 70) rfl ⟨B + 1, 0, none⟩ rfl _ rfl hst9 ?_)
        refine bodyPost_ret (Go.Proofs.YtjndfmpicnkplaaDoorW.PrintWords.results_ct rfl _ _ (B + 1) _ #[.int .i64 0, .slice none 0 0] (0, 0) _ rfl (setRow_block HRS.out) Tryd.underlying32 rfl info32s) rfl ?_
        exact .inl ⟨HNO.out, rfl, HBL.out.os, HBL.out.tape, HBL.out.output, by have h9 := HBL.out.size; simpa using h9, fun q hq => (setRow_other _ _ q _ (by have := EB.out; omega)).trans (HBL.out.block q hq)⟩
end Go.Proofs.YtjndfmpicnkplaaDoor.msgw
