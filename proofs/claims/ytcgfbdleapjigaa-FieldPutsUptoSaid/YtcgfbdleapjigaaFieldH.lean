/- Walks of layer 4: what reads a field. Conditions: as each theorem says. -/
import Derived.Test.YtcgfbdleapjigaaFieldG
namespace Go.Proofs.Ytcgfbdleapjigaa.fieldw
open Go.RowKit Go.Proofs.Ytcgfbdleapjigaa.fieldp Go.Proofs.YtcgfbdleapjigaaW.PrintWords Go.Proofs.YtcgfbdleapjigaaW.PrintLast

/-- The world is as it was, but for one block. -/
structure Touch (b : Nat) (w w' : World) : Prop where
  os : w'.os = w.os
  tape : w'.tape = w.tape
  output : w'.output = w.output
  size : w.heap.size ≤ w'.heap.size
  block : ∀ k, k < w.heap.size → k ≠ b → w'.heap[k]? = w.heap[k]?
theorem Touch.refl (b : Nat) (w : World) : Touch b w w := ⟨rfl, rfl, rfl, Nat.le_refl _, fun _ _ _ => rfl⟩
theorem Touch.of_below {w w' : World} (h : Below w.heap.size w w') (b : Nat) : Touch b w w' := ⟨h.os, h.tape, h.output, h.size, fun k hk _ => h.block k hk⟩
theorem Touch.trans {b : Nat} {a w w' : World} (h : Touch b a w) (k : Touch b w w') : Touch b a w' :=
  ⟨k.os.trans h.os, k.tape.trans h.tape, k.output.trans h.output, Nat.le_trans h.size k.size, fun i hi hb => (k.block i (Nat.lt_of_lt_of_le hi h.size) hb).trans (h.block i hi hb)⟩
theorem Touch.set {b : Nat} (w : World) (j : Nat) (u : Value) : Touch b w (w.setCell ⟨b, j, none⟩ u) :=
  ⟨rfl, rfl, rfl, by simp [World.setCell], fun k _ hb => Below.heap_setCell _ _ _ _ hb⟩
theorem Touch.below {b B : Nat} {w w' : World} (h : Touch b w w') (hB : B ≤ w.heap.size) (hb : B ≤ b) : Below B w w' :=
  ⟨h.os, h.tape, h.output, h.size, fun k hk => h.block k (by omega) (by omega)⟩
theorem Touch.cell {b : Nat} {w w' : World} (h : Touch b w w') {p : Addr} {v : Value} (hp : p.block ≠ b) (hv : w.cell? p = some v) : w'.cell? p = some v := by
  have hl := World.block_lt_of_cell? w _ hv
  have e := h.block p.block hl hp
  unfold World.cell? at hv ⊢
  rw [e]
  exact hv

def CK.size : CK → Int → Int
  | .plain _ _, n => n
  | .packed _, n => (n + 1) / 2
def CK.take : CK → List UInt8 → Int → Option (List UInt8)
  | .plain f t, l, _ => turnL t.data.toList f.data.toList l
  | .packed d, l, n => takePacked d.data.toList l n.toNat
def takeOkC : CK → Prop
  | .plain f t => t.size ≤ f.size
  | .packed _ => True

def SizesAs (g : Nat) (n k : Int) : Prop := ∀ w : World, Calls Try.prog g #[.int .i64 n] w fun e w' => e = .returned (.int .i64 k) ∧ w = w'
def TakesAs (g : Nat) (q : Array Value) (w : World) (s : ByteArray) (n : Int) (x : Option (List UInt8)) : Prop :=
  ∀ w' : World, (∀ p v, w.cell? p = some v → w'.cell? p = some v) → Calls Try.prog g (#[.string s, .int .i64 n] ++ q) w' (ret2b x w')

theorem CodeAt.takes {w : World} {lo : Nat} {v : Value} {ck : CK} (h : CodeAt w lo v ck) (hok : takeOkC ck) : ∃ g0 q0 g1 g2 q2, v = .agg #[.func (.func g0) #[] q0, .func (.func g1) #[] #[], .func (.func g2) #[] q2] ∧ Enters g1 ∧ Enters g2 ∧
    (∀ n : Int, 0 ≤ n → n ≤ 1000 → SizesAs g1 n (ck.size n)) ∧
    (∀ (s : ByteArray) (n : Int), s.size ≤ 1000 → 0 ≤ n → n ≤ 1000 → (s.size : Int) = ck.size n → TakesAs g2 q2 w s n (ck.take s.data.toList n)) := by
  cases ck with
  | plain f t =>
    obtain ⟨a, b, e, ha, hb, _⟩ := h
    refine ⟨_, _, _, _, _, e, fun args W => enters_ Try.func60 (by kernel_rfl) rfl args W, fun args W => enters_ Try.func61 (by kernel_rfl) rfl args W, fun n _ _ w => size_plain n w, fun s n hs _ _ _ w' hk => ?_⟩
    refine (take_plain s f t n a b w' (hk _ _ ha) (hk _ _ hb) (by omega) hok).mono ?_
    rintro e w1 ⟨rfl, hb⟩
    exact ⟨_, rfl, fun y hy => by have : turnL t.data.toList f.data.toList s.data.toList = some y := hy
                                  rw [this]; rfl, hb⟩
  | packed d =>
    obtain ⟨a, e, ha, _⟩ := h
    refine ⟨_, _, _, _, _, e, fun args W => enters_ Try.func63 (by kernel_rfl) rfl args W, fun args W => enters_ Try.func64 (by kernel_rfl) rfl args W, fun n h0 h1 w => size_packed n w h0 h1, fun s n hs h0 h1 hsz w' hk => ?_⟩
    obtain ⟨m, rfl⟩ : ∃ m : Nat, n = (m : Int) := ⟨n.toNat, by omega⟩
    have hsz' : (s.size : Int) = ((m : Int) + 1) / 2 := hsz
    exact take_packed s d m a w' (hk _ _ ha) hs (by omega) (by omega)

/-- The next signs: what they say, what is left, what is wrong. -/
def nextL (ck : CK) (n : Int) (l : List UInt8) (e : Int) : List UInt8 × List UInt8 × Int :=
  if e ≠ 0 then ([], l, e)
  else if (l.length : Int) < ck.size n then ([], l, 43)
  else match ck.take (l.take (ck.size n).toNat) n with
    | none => ([], l, 42)
    | some t => (t, l.drop (ck.size n).toNat, 0)
/-- A reader's block. -/
def Rd (w : World) (b : Nat) (l : List UInt8) (e : Int) : Prop := w.heap[b]? = some (.cells #[.string ⟨l.toArray⟩, .int .i64 e] 57 (0, 0))
theorem one_ (w : World) (o : Obj) : Below w.heap.size w (w.alloc o).drew := ((Below.refl _ _).alloc (Nat.le_refl _) _).drew
theorem keep1d {w2 : World} {p : Addr} {v : Value} (h : w2.cell? p = some v) (o : Obj) : ((w2.alloc o).drew).cell? p = some v := by
  have hl := World.block_lt_of_cell? w2 _ h
  exact ((one_ w2 o).cell hl).trans h
def nextPost (w : World) (b : Nat) (r : List UInt8 × List UInt8 × Int) (e : Ending) (w' : World) : Prop :=
  e = .returned (.string ⟨r.1.toArray⟩) ∧ Rd w' b r.2.1 r.2.2 ∧ Touch b w w'

set_option maxHeartbeats 4000000 in
set_option maxRecDepth 100000 in
theorem next_any {w : World} {lo : Nat} {v : Value} {ck : CK} (hcode : CodeAt w lo v ck) (hok : takeOkC ck) (b : Nat) (l : List UInt8) (e n : Int) (hrd : Rd w b l e) (hn0 : 0 ≤ n) (hn1 : n ≤ 1000) :
    Calls Try.prog 48 #[.pointer (some ⟨b, 0, none⟩), v, .int .i64 n] w (nextPost w b (nextL ck n l e)) := by
  have hcode' := hcode
  obtain ⟨g0, q0, g1, g2, q2, rfl, he1, he2, hsz, htk⟩ := hcode.takes hok
  have HE1 := Lib.hid he1
  have HE2 := Lib.hid he2
  have HS := Lib.hid (hsz n hn0 hn1)
  have hblt : b < w.heap.size := (Array.getElem?_eq_some_iff.1 hrd).1
  have hr0 : w.cell? ⟨b, 0, none⟩ = some (.string ⟨l.toArray⟩) := blk_cell hrd 0
  have hr1 : w.cell? ⟨b, 1, none⟩ = some (.int .i64 e) := blk_cell hrd 1
  have hf0 : w.frozen? ⟨b, 0, none⟩ = false := blk_frozen hrd 0
  have hf1 : w.frozen? ⟨b, 1, none⟩ = false := blk_frozen hrd 1
  have HRD := Aside0.mk hrd
  have hsl : (⟨l.toArray⟩ : ByteArray).size = l.length := size_arr l
  have hks : 0 ≤ ck.size n ∧ ck.size n ≤ 1000 := by
    cases ck with
    | plain f t => exact ⟨hn0, by show n ≤ 1000; omega⟩
    | packed d => exact ⟨by show 0 ≤ (n + 1) / 2; omega, by show (n + 1) / 2 ≤ 1000; omega⟩
  obtain ⟨k, hk⟩ : ∃ k : Nat, ck.size n = (k : Int) := ⟨(ck.size n).toNat, by omega⟩
  have hk1 : k ≤ 1000 := by omega
  rw [hk] at HS
  by_cases hez : e = 0
  · subst hez
    by_cases hlt : l.length < k
    · have hfin : nextL ck n l 0 = ([], l, 43) := by simp [nextL, hk, hlt]
      rw [hfin]
      have hlt' : (l.length : Int) < (k : Int) := by omega
      clear hsz htk hfin hks hk
      go_enter Try.func48, Try.ntmps48
      go_wp2_with fail
      rw [HE1.out, Oper.upon_enter]
      refine (HS.out _).mono ?_
      rintro e_ w1 ⟨rfl, rfl⟩
      go_wp2_with fail
      go_ret
      exact ⟨rfl, blk_alloc (blk_set HRD.out 1 _) _, (Touch.set _ _ _).trans (Touch.of_below ((Below.refl _ _).alloc (Nat.le_refl _) _) _)⟩
    · have hle : k ≤ l.length := by omega
      have hsk : ((⟨l.toArray⟩ : ByteArray).extract 0 k).data.toList = l.take k := by simp
      have hskz : ((⟨l.toArray⟩ : ByteArray).extract 0 k).size = k := by rw [← size_list, hsk, List.length_take]; omega
      have hsd : ((⟨l.toArray⟩ : ByteArray).extract k l.length) = ⟨(l.drop k).toArray⟩ := by
        have : ((⟨l.toArray⟩ : ByteArray).extract k l.length).data.toList = l.drop k := by
          simp
          exact List.take_of_length_le (by simp)
        cases hx : (⟨l.toArray⟩ : ByteArray).extract k l.length with
        | mk a => rw [hx] at this; simp only at this; rw [← this]
      have hT := htk ((⟨l.toArray⟩ : ByteArray).extract 0 k) n (by rw [hskz]; omega) hn0 hn1 (by rw [hskz, hk])
      rw [hsk] at hT
      have HT := Lib.hid hT
      have hfin : nextL ck n l 0 = match ck.take (l.take k) n with | none => ([], l, 42) | some t => (t, l.drop k, 0) := by simp [nextL, hk, hlt]
      rw [hfin]
      have hle' : (k : Int) ≤ (l.length : Int) := by omega
      have hnlt : ¬ ((l.length : Int) < (k : Int)) := by omega
      have hk0 : (0 : Int) ≤ (k : Int) := by omega
      have HSD := Lib.hid hsd
      clear hsz htk hfin hks hk hT hsk hskz hsd
      generalize hres : ck.take (l.take k) n = res at HT ⊢
      clear hres
      cases res with
      | none =>
        go_enter Try.func48, Try.ntmps48
        go_wp2_with fail
        rw [HE1.out, Oper.upon_enter]
        refine (HS.out _).mono ?_
        rintro e_ w1 ⟨rfl, rfl⟩
        go_wp2_with fail
        go_region_held3 (fun w' => w'.cell? ⟨w.heap.size, 2, none⟩ = some (.func (.func g2) #[] q2) ∧ w'.cell? ⟨b, 0, none⟩ = some (.string ⟨l.toArray⟩)) (go_keep)
          (first | (rw [HE2.out, Oper.upon_enter]; refine (HT.out _ (fun p v h => keep1d h _)).mono ?_; rintro e_ w3 ⟨x, rfl, hx, hb3⟩; have hrd3 : Rd w3 b l 0 := blk_below (blk_drew (blk_alloc HRD.out _)) hb3; have h30 : w3.cell? ⟨b, 0, none⟩ = some (.string ⟨l.toArray⟩) := blk_cell hrd3 0; have h31 : w3.cell? ⟨b, 1, none⟩ = some (.int .i64 0) := blk_cell hrd3 1; have hf30 : w3.frozen? ⟨b, 0, none⟩ = false := blk_frozen hrd3 0; have hf31 : w3.frozen? ⟨b, 1, none⟩ = false := blk_frozen hrd3 1; have h3c : w3.cell? ⟨w.heap.size, 2, none⟩ = some (.func (.func g2) #[] q2) := (hb3.cell (by simp)).trans (by go_simp); have HT3 := Aside0.mk (Touch.of_below ((one_ w _).trans (hb3.mono (one_ w _).size)) b); have HRD3 := Aside0.mk hrd3; have HX := Lib.hid hx; clear hb3 hrd3 hx))
        go_wp2_with fail
        go_ret
        exact ⟨rfl, blk_set HRD3.out 1 _, HT3.out.trans (Touch.set _ _ _)⟩
      | some t =>
        go_enter Try.func48, Try.ntmps48
        go_wp2_with fail
        rw [HE1.out, Oper.upon_enter]
        refine (HS.out _).mono ?_
        rintro e_ w1 ⟨rfl, rfl⟩
        go_wp2_with fail
        go_region_held3 (fun w' => w'.cell? ⟨w.heap.size, 2, none⟩ = some (.func (.func g2) #[] q2) ∧ w'.cell? ⟨b, 0, none⟩ = some (.string ⟨l.toArray⟩)) (go_keep)
          (first | (rw [HE2.out, Oper.upon_enter]; refine (HT.out _ (fun p v h => keep1d h _)).mono ?_; rintro e_ w3 ⟨x, rfl, hx, hb3⟩; have hrd3 : Rd w3 b l 0 := blk_below (blk_drew (blk_alloc HRD.out _)) hb3; have h30 : w3.cell? ⟨b, 0, none⟩ = some (.string ⟨l.toArray⟩) := blk_cell hrd3 0; have h31 : w3.cell? ⟨b, 1, none⟩ = some (.int .i64 0) := blk_cell hrd3 1; have hf30 : w3.frozen? ⟨b, 0, none⟩ = false := blk_frozen hrd3 0; have hf31 : w3.frozen? ⟨b, 1, none⟩ = false := blk_frozen hrd3 1; have h3c : w3.cell? ⟨w.heap.size, 2, none⟩ = some (.func (.func g2) #[] q2) := (hb3.cell (by simp)).trans (by go_simp); have HT3 := Aside0.mk (Touch.of_below ((one_ w _).trans (hb3.mono (one_ w _).size)) b); have HRD3 := Aside0.mk hrd3; have HX := Lib.hid hx; clear hb3 hrd3 hx))
        go_wp2_with fail
        rw [HSD.out, HX.out t rfl]
        go_ret
        exact ⟨rfl, blk_set HRD3.out 0 _, HT3.out.trans (Touch.set _ _ _)⟩
  · have hfin : nextL ck n l e = ([], l, e) := by simp [nextL, hez]
    rw [hfin]
    have hne : (e != 0) = true := by simpa using hez
    clear hsz htk hez hfin hks hk
    go_enter Try.func48, Try.ntmps48
    go_wp2_with fail
    rw [HE1.out, Oper.upon_enter]
    refine (HS.out _).mono ?_
    rintro e_ w1 ⟨rfl, rfl⟩
    go_wp2_with fail
    go_ret
    exact ⟨rfl, blk_alloc HRD.out _, Touch.of_below ((Below.refl _ _).alloc (Nat.le_refl _) _) _⟩
end Go.Proofs.Ytcgfbdleapjigaa.fieldw
