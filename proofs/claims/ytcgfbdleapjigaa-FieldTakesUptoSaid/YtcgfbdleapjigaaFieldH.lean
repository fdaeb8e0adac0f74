/- Walks of layer 4: what reads a field. Conditions: as each theorem says. -/
import Derived.Test.YtcgfbdleapjigaaFieldG
namespace Go.Proofs.Ytcgfbdleapjigaa.fieldw
open Go.RowKit Go.Proofs.Ytcgfbdleapjigaa.fieldp Go.Proofs.YtcgfbdleapjigaaW.PrintWords Go.Proofs.YtcgfbdleapjigaaW.PrintLast

/-- The world is as it was, but for one block. -/
structure Touch (b : Nat) (w w' : World) : Prop where
  os : w'.os = w.os
  tape : w'.tape = w.tape
  output : w'.output = w.output
  size : w.heap.size ≤ w'.heap.size
  block : ∀ k, k < w.heap.size → k ≠ b → w'.heap[k]? = w.heap[k]?
theorem Touch.refl (b : Nat) (w : World) : Touch b w w := ⟨rfl, rfl, rfl, Nat.le_refl _, fun _ _ _ => rfl⟩
theorem Touch.of_below {w w' : World} (h : Below w.heap.size w w') (b : Nat) : Touch b w w' := ⟨h.os, h.tape, h.output, h.size, fun k hk _ => h.block k hk⟩
theorem Touch.trans {b : Nat} {a w w' : World} (h : Touch b a w) (k : Touch b w w') : Touch b a w' :=
  ⟨k.os.trans h.os, k.tape.trans h.tape, k.output.trans h.output, Nat.le_trans h.size k.size, fun i hi hb => (k.block i (Nat.lt_of_lt_of_le hi h.size) hb).trans (h.block i hi hb)⟩
theorem Touch.set {b : Nat} (w : World) (j : Nat) (u : Value) : Touch b w (w.setCell ⟨b, j, none⟩ u) :=
  ⟨rfl, rfl, rfl, by simp [World.setCell], fun k _ hb => Below.heap_setCell _ _ _ _ hb⟩
theorem Touch.below {b B : Nat} {w w' : World} (h : Touch b w w') (hB : B ≤ w.heap.size) (hb : B ≤ b) : Below B w w' :=
  ⟨h.os, h.tape, h.output, h.size, fun k hk => h.block k (by omega) (by omega)⟩
theorem Touch.cell {b : Nat} {w w' : World} (h : Touch b w w') {p : Addr} {v : Value} (hp : p.block ≠ b) (hv : w.cell? p = some v) : w'.cell? p = some v := by
  have hl := World.block_lt_of_cell? w _ hv
  have e := h.block p.block hl hp
  unfold World.cell? at hv ⊢
  rw [e]
  exact hv

def CK.size : CK → Int → Int
  | .plain _ _, n => n
  | .packed _, n => (n + 1) / 2
def CK.take : CK → List UInt8 → Int → Option (List UInt8)
  | .plain f t, l, _ => turnL t.data.toList f.data.toList l
  | .packed d, l, n => takePacked d.data.toList l n.toNat
def takeOkC : CK → Prop
  | .plain f t => t.size ≤ f.size
  | .packed _ => True

def SizesAs (g : Nat) (n k : Int) : Prop := ∀ w : World, Calls Try.prog g #[.int .i64 n] w fun e w' => e = .returned (.int .i64 k) ∧ w = w'
def TakesAs (g : Nat) (q : Array Value) (w : World) (s : ByteArray) (n : Int) (x : Option (List UInt8)) : Prop :=
  ∀ w' : World, (∀ p v, w.cell? p = some v → w'.cell? p = some v) → Calls Try.prog g (#[.string s, .int .i64 n] ++ q) w' (ret2b x w')

theorem CodeAt.takes {w : World} {lo : Nat} {v : Value} {ck : CK} (h : CodeAt w lo v ck) (hok : takeOkC ck) : ∃ g0 q0 g1 g2 q2, v = .agg #[.func (.func g0) #[] q0, .func (.func g1) #[] #[], .func (.func g2) #[] q2] ∧ Enters g1 ∧ Enters g2 ∧
    (∀ n : Int, 0 ≤ n → n ≤ 1000 → SizesAs g1 n (ck.size n)) ∧
    (∀ (s : ByteArray) (n : Int), s.size ≤ 1000 → 0 ≤ n → n ≤ 1000 → (s.size : Int) = ck.size n → TakesAs g2 q2 w s n (ck.take s.data.toList n)) := by
  cases ck with
  | plain f t =>
    obtain ⟨a, b, e, ha, hb, _⟩ := h
    refine ⟨_, _, _, _, _, e, fun args W => enters_ Try.func60 (by kernel_rfl) rfl args W, fun args W => enters_ Try.func61 (by kernel_rfl) rfl args W, fun n _ _ w => size_plain n w, fun s n hs _ _ _ w' hk => ?_⟩
    refine (take_plain s f t n a b w' (hk _ _ ha) (hk _ _ hb) (by omega) hok).mono ?_
    rintro e w1 ⟨rfl, hb⟩
    exact ⟨_, rfl, fun y hy => by have : turnL t.data.toList f.data.toList s.data.toList = some y := hy
                                  rw [this]; rfl, hb⟩
  | packed d =>
    obtain ⟨a, e, ha, _⟩ := h
    refine ⟨_, _, _, _, _, e, fun args W => enters_ Try.func63 (by kernel_rfl) rfl args W, fun args W => enters_ Try.func64 (by kernel_rfl) rfl args W, fun n h0 h1 w => size_packed n w h0 h1, fun s n hs h0 h1 hsz w' hk => ?_⟩
    obtain ⟨m, rfl⟩ : ∃ m : Nat, n = (m : Int) := ⟨n.toNat, by omega⟩
    have hsz' : (s.size : Int) = ((m : Int) + 1) / 2 := hsz
    exact take_packed s d m a w' (hk _ _ ha) hs (by omega) (by omega)

/-- The next signs: what they say, what is left, what is wrong. -/
def nextL (ck : CK) (n : Int) (l : List UInt8) (e : Int) : List UInt8 × List UInt8 × Int :=
  if e ≠ 0 then ([], l, e)
  else if (l.length : Int) < ck.size n then ([], l, 43)
  else match ck.take (l.take (ck.size n).toNat) n with
    | none => ([], l, 42)
    | some t => (t, l.drop (ck.size n).toNat, 0)
/-- A reader's block. -/
def Rd (w : World) (b : Nat) (l : List UInt8) (e : Int) : Prop := w.heap[b]? = some (.cells #[.string ⟨l.toArray⟩, .int .i64 e] 57 (0, 0))
theorem one_ (w : World) (o : Obj) : Below w.heap.size w (w.alloc o).drew := ((Below.refl _ _).alloc (Nat.le_refl _) _).drew
theorem keep1d {w2 : World} {p : Addr} {v : Value} (h : w2.cell? p = some v) (o : Obj) : ((w2.alloc o).drew).cell? p = some v := by
  have hl := World.block_lt_of_cell? w2 _ h
  exact ((one_ w2 o).cell hl).trans h
def nextPost (w : World) (b : Nat) (r : List UInt8 × List UInt8 × Int) (e : Ending) (w' : World) : Prop :=
  e = .returned (.string ⟨r.1.toArray⟩) ∧ Rd w' b r.2.1 r.2.2 ∧ Touch b w w'

set_option maxHeartbeats 4000000 in
set_option maxRecDepth 100000 in
theorem next_any {w : World} {lo : Nat} {v : Value} {ck : CK} (hcode : CodeAt w lo v ck) (hok : takeOkC ck) (b : Nat) (l : List UInt8) (e n : Int) (hrd : Rd w b l e) (hn0 : 0 ≤ n) (hn1 : n ≤ 1000) :
    Calls Try.prog 48 #[.pointer (some ⟨b, 0, none⟩), v, .int .i64 n] w (nextPost w b (nextL ck n l e)) := by
  have hcode' := hcode
  obtain ⟨g0, q0, g1, g2, q2, rfl, he1, he2, hsz, htk⟩ := hcode.takes hok
  have HE1 := Lib.hid he1
  have HE2 := Lib.hid he2
  have HS := Lib.hid (hsz n hn0 hn1)
  have hblt : b < w.heap.size := (Array.getElem?_eq_some_iff.1 hrd).1
  have hr0 : w.cell? ⟨b, 0, none⟩ = some (.string ⟨l.toArray⟩) := blk_cell hrd 0
  have hr1 : w.cell? ⟨b, 1, none⟩ = some (.int .i64 e) := blk_cell hrd 1
  have hf0 : w.frozen? ⟨b, 0, none⟩ = false := blk_frozen hrd 0
  have hf1 : w.frozen? ⟨b, 1, none⟩ = false := blk_frozen hrd 1
  have HRD := Aside0.mk hrd
  have hsl : (⟨l.toArray⟩ : ByteArray).size = l.length := size_arr l
  have hks : 0 ≤ ck.size n ∧ ck.size n ≤ 1000 := by
    cases ck with
    | plain f t => exact ⟨hn0, by show n ≤ 1000; omega⟩
    | packed d => exact ⟨by show 0 ≤ (n + 1) / 2; omega, by show (n + 1) / 2 ≤ 1000; omega⟩
  obtain ⟨k, hk⟩ : ∃ k : Nat, ck.size n = (k : Int) := ⟨(ck.size n).toNat, by omega⟩
  have hk1 : k ≤ 1000 := by omega
  rw [hk] at HS
  by_cases hez : e = 0
  · subst hez
    by_cases hlt : l.length < k
    · have hfin : nextL ck n l 0 = ([], l, 43) := by simp [nextL, hk, hlt]
      rw [hfin]
      have hlt' : (l.length : Int) < (k : Int) := by omega
      clear hsz htk hfin hks hk
      go_enter Try.func48, Try.ntmps48
      go_wp2_with fail
      rw [HE1.out, Oper.upon_enter]
      refine (HS.out _).mono ?_
      rintro e_ w1 ⟨rfl, rfl⟩
      go_wp2_with fail
      go_ret
      exact ⟨rfl, blk_alloc (blk_set HRD.out 1 _) _, (Touch.set _ _ _).trans (Touch.of_below ((Below.refl _ _).alloc (Nat.le_refl _) _) _)⟩
    · have hle : k ≤ l.length := by omega
      have hsk : ((⟨l.toArray⟩ : ByteArray).extract 0 k).data.toList = l.take k := by simp
      have hskz : ((⟨l.toArray⟩ : ByteArray).extract 0 k).size = k := by rw [← size_list, hsk, List.length_take]; omega
      have hsd : ((⟨l.toArray⟩ : ByteArray).extract k l.length) = ⟨(l.drop k).toArray⟩ := by
        have : ((⟨l.toArray⟩ : ByteArray).extract k l.length).data.toList = l.drop k := by
          simp
          exact List.take_of_length_le (by simp)
        cases hx : (⟨l.toArray⟩ : ByteArray).extract k l.length with
        | mk a => rw [hx] at this; simp only at this; rw [← this]
      have hT := htk ((⟨l.toArray⟩ : ByteArray).extract 0 k) n (by rw [hskz]; omega) hn0 hn1 (by rw [hskz, hk])
      rw [hsk] at hT
      have HT := Lib.hid hT
      have hfin : nextL ck n l 0 = match ck.take (l.take k) n with | none => ([], l, 42) | some t => (t, l.drop k, 0) := by simp [nextL, hk, hlt]
      rw [hfin]
      have hle' : (k : Int) ≤ (l.length : Int) := by omega
      have hnlt : ¬ ((l.length : Int) < (k : Int)) := by omega
      have hk0 : (0 : Int) ≤ (k : Int) := by omega
      have HSD := Lib.hid hsd
      clear hsz htk hfin hks hk hT hsk hskz hsd
      generalize hres : ck.take (l.take k) n = res at HT ⊢
      clear hres
      cases res with
      | none =>
        go_enter Try.func48, Try.ntmps48
        go_wp2_with fail
        rw [HE1.out, Oper.upon_enter]
        refine (HS.out _).mono ?_
        rintro e_ w1 ⟨rfl, rfl⟩
        go_wp2_with fail
        go_region_held3 (fun w' => w'.cell? ⟨w.heap.size, 2, none⟩ = some (.func (.func g2) #[] q2) ∧ w'.cell? ⟨b, 0, none⟩ = some (.string ⟨l.toArray⟩)) (go_keep)
          (first | (rw [HE2.out, Oper.upon_enter]; refine (HT.out _ (fun p v h => keep1d h _)).mono ?_; rintro e_ w3 ⟨x, rfl, hx, hb3⟩; have hrd3 : Rd w3 b l 0 := blk_below (blk_drew (blk_alloc HRD.out _)) hb3; have h30 : w3.cell? ⟨b, 0, none⟩ = some (.string ⟨l.toArray⟩) := blk_cell hrd3 0; have h31 : w3.cell? ⟨b, 1, none⟩ = some (.int .i64 0) := blk_cell hrd3 1; have hf30 : w3.frozen? ⟨b, 0, none⟩ = false := blk_frozen hrd3 0; have hf31 : w3.frozen? ⟨b, 1, none⟩ = false := blk_frozen hrd3 1; have h3c : w3.cell? ⟨w.heap.size, 2, none⟩ = some (.func (.func g2) #[] q2) := (hb3.cell (by simp)).trans (by go_simp); have HT3 := Aside0.mk (Touch.of_below ((one_ w _).trans (hb3.mono (one_ w _).size)) b); have HRD3 := Aside0.mk hrd3; have HX := Lib.hid hx; clear hb3 hrd3 hx))
        go_wp2_with fail
        go_ret
        exact ⟨rfl, blk_set HRD3.out 1 _, HT3.out.trans (Touch.set _ _ _)⟩
      | some t =>
        go_enter Try.func48, Try.ntmps48
        go_wp2_with fail
        rw [HE1.out, Oper.upon_enter]
        refine (HS.out _).mono ?_
        rintro e_ w1 ⟨rfl, rfl⟩
        go_wp2_with fail
        go_region_held3 (fun w' => w'.cell? ⟨w.heap.size, 2, none⟩ = some (.func (.func g2) #[] q2) ∧ w'.cell? ⟨b, 0, none⟩ = some (.string ⟨l.toArray⟩)) (go_keep)
          (first | (rw [HE2.out, Oper.upon_enter]; refine (HT.out _ (fun p v h => keep1d h _)).mono ?_; rintro e_ w3 ⟨x, rfl, hx, hb3⟩; have hrd3 : Rd w3 b l 0 := blk_below (blk_drew (blk_alloc HRD.out _)) hb3; have h30 : w3.cell? ⟨b, 0, none⟩ = some (.string ⟨l.toArray⟩) := blk_cell hrd3 0; have h31 : w3.cell? ⟨b, 1, none⟩ = some (.int .i64 0) := blk_cell hrd3 1; have hf30 : w3.frozen? ⟨b, 0, none⟩ = false := blk_frozen hrd3 0; have hf31 : w3.frozen? ⟨b, 1, none⟩ = false := blk_frozen hrd3 1; have h3c : w3.cell? ⟨w.heap.size, 2, none⟩ = some (.func (.func g2) #[] q2) := (hb3.cell (by simp)).trans (by go_simp); have HT3 := Aside0.mk (Touch.of_below ((one_ w _).trans (hb3.mono (one_ w _).size)) b); have HRD3 := Aside0.mk hrd3; have HX := Lib.hid hx; clear hb3 hrd3 hx))
        go_wp2_with fail
        rw [HSD.out, HX.out t rfl]
        go_ret
        exact ⟨rfl, blk_set HRD3.out 0 _, HT3.out.trans (Touch.set _ _ _)⟩
  · have hfin : nextL ck n l e = ([], l, e) := by simp [nextL, hez]
    rw [hfin]
    have hne : (e != 0) = true := by simpa using hez
    clear hsz htk hez hfin hks hk
    go_enter Try.func48, Try.ntmps48
    go_wp2_with fail
    rw [HE1.out, Oper.upon_enter]
    refine (HS.out _).mono ?_
    rintro e_ w1 ⟨rfl, rfl⟩
    go_wp2_with fail
    go_ret
    exact ⟨rfl, blk_alloc HRD.out _, Touch.of_below ((Below.refl _ _).alloc (Nat.le_refl _) _) _⟩
end Go.Proofs.Ytcgfbdleapjigaa.fieldw

namespace Go.Proofs.Ytcgfbdleapjigaa.fieldw
open Go.RowKit Go.Proofs.Ytcgfbdleapjigaa.fieldp Go.Proofs.YtcgfbdleapjigaaW.PrintWords Go.Proofs.YtcgfbdleapjigaaW.PrintLast

/-- Two digits as a number. -/
def toldN (t : List UInt8) : Int := 10 * ((t.getD 0 0 - 48).toNat : Int) + ((t.getD 1 0 - 48).toNat : Int)
/-- What a form's bytes say, what is left, what is wrong. -/
def textL (k n c : Int) (l : List UInt8) : List UInt8 × List UInt8 × Int :=
  if k = 5 then
    if (l.length : Int) < (lettersC c).size 1 + (digitsC c).size n then ([], l, 43)
    else ((nextL (lettersC c) 1 l 0).1 ++ (nextL (digitsC c) n (nextL (lettersC c) 1 l 0).2.1 (nextL (lettersC c) 1 l 0).2.2).1, (nextL (digitsC c) n (nextL (lettersC c) 1 l 0).2.1 (nextL (lettersC c) 1 l 0).2.2).2)
  else if k = 2 then
    if (nextL (digitsC c) 2 l 0).2.2 ≠ 0 then ([], (nextL (digitsC c) 2 l 0).2)
    else nextL (digitsC c) (toldN (nextL (digitsC c) 2 l 0).1) (nextL (digitsC c) 2 l 0).2.1 (if toldN (nextL (digitsC c) 2 l 0).1 < 1 ∨ n < toldN (nextL (digitsC c) 2 l 0).1 then 42 else 0)
  else if k = 1 then nextL (digitsC c) n l 0
  else if k = 3 then nextL (lettersC c) n l 0
  else nextL (rawC c) (2 * n) l 0

theorem digits_ok (c : Int) : takeOkC (digitsC c) := by
  unfold digitsC
  split
  · exact Nat.le_refl _
  · split
    · trivial
    · show eb10.size ≤ tenB.size
      decide
theorem raws_ok (c : Int) : takeOkC (rawC c) := by
  unfold rawC
  split
  · show highB.size ≤ lowB.size
    decide
  · trivial
theorem letters_okT (c : Int) : takeOkC (lettersC c) := by
  unfold lettersC
  split
  · exact Nat.le_refl _
  · split
    · exact Nat.le_refl _
    · show ebcB.size ≤ signsB.size
      decide
theorem CodeAt.form {w : World} {lo : Nat} {v : Value} {ck : CK} (h : CodeAt w lo v ck) : ∃ g0 q0 g1 g2 q2, v = .agg #[.func (.func g0) #[] q0, .func (.func g1) #[] #[], .func (.func g2) #[] q2] := by
  cases ck with
  | plain f t =>
    obtain ⟨a, b, e, _⟩ := h
    exact ⟨_, _, _, _, _, e⟩
  | packed d =>
    obtain ⟨a, e, _⟩ := h
    exact ⟨_, _, _, _, _, e⟩
theorem CodeAt.touch {w w' : World} {lo b : Nat} {v : Value} {c : CK} (h : CodeAt w lo v c) (hb : b < lo) (ht : Touch b w w') : CodeAt w' lo v c := by
  cases c with
  | plain f t =>
    obtain ⟨a, b', e, h1, h2, h3, h4⟩ := h
    exact ⟨a, b', e, ht.cell (by show a ≠ b; omega) h1, ht.cell (by show b' ≠ b; omega) h2, h3, h4⟩
  | packed d =>
    obtain ⟨a, e, h1, h2⟩ := h
    exact ⟨a, e, ht.cell (by show a ≠ b; omega) h1, h2⟩
theorem thr (w2 : World) (o1 o2 o3 : Obj) : Below w2.heap.size w2 (((w2.alloc o1).alloc o2).alloc o3) :=
  (((Below.refl _ _).alloc (Nat.le_refl _) _).alloc (by simp) _).alloc (by simp; omega) _

theorem inRow_at {row : List UInt8} {i : Nat} (h : i < row.length) : inRow row (row.getD i 0) = true := by
  unfold inRow
  rw [decide_eq_true_iff]
  intro e
  apply Lib.indexByte_none e i
  rw [List.getD_eq_getElem?_getD, List.getElem?_eq_getElem h]
  rfl
theorem turnL_all (fr tt : List UInt8) (hft : fr.length ≤ tt.length) : ∀ (l a : List UInt8), turnL fr tt l = some a → a.all (inRow tt) = true
  | [], a, h => by simp [turnL] at h; subst h; rfl
  | c :: l, a, h => by
    simp only [turnL] at h
    split at h
    · cases h
    · rename_i hne
      cases e : turnL fr tt l with
      | none => rw [e] at h; cases h
      | some b =>
        rw [e] at h
        simp only [Option.map_some, Option.some.injEq] at h
        subst h
        have hi : (Lib.indexByte fr c).toNat < fr.length := by
          have h1 := Lib.indexByte_ge fr c
          have h2 := (Lib.indexByte_some (l := fr) (c := c) (o := (Lib.indexByte fr c).toNat) (by omega)).1
          exact (List.getElem?_eq_some_iff.1 h2).1
        simp only [List.all_cons, Bool.and_eq_true]
        exact ⟨inRow_at (by omega), turnL_all fr tt hft l b e⟩
theorem digits_take {c n : Int} {l t : List UInt8} (hn : 0 ≤ n) (hl : (l.length : Int) = (digitsC c).size n) (h : (digitsC c).take l n = some t) : t.all (inRow tenL) = true ∧ (t.length : Int) = n := by
  unfold digitsC at hl h
  split at h
  · rename_i h1
    rw [if_pos h1] at hl
    have hl' : (l.length : Int) = n := hl
    have h' : turnL tenL tenL l = some t := h
    exact ⟨turnL_all _ _ (Nat.le_refl _) _ _ h', by rw [turnL_length _ _ _ _ h']; exact hl'⟩
  · rename_i h1
    rw [if_neg h1] at hl
    split at h
    · have h' : takePacked tenL l n.toNat = some t := h
      unfold takePacked at h'
      have : ofB t tenL n.toNat = true := by
        split at h'
        · split at h'
          · split at h'
            · cases h'; assumption
            · cases h'
          · cases h'
        · split at h'
          · cases h'; assumption
          · cases h'
      obtain ⟨a, b⟩ := ofB_all this
      exact ⟨a, by omega⟩
    · rename_i h2
      rw [if_neg h2] at hl
      have hl' : (l.length : Int) = n := hl
      have h' : turnL eb10.data.toList tenL l = some t := h
      exact ⟨turnL_all _ _ (by decide) _ _ h', by rw [turnL_length _ _ _ _ h']; exact hl'⟩
theorem size_nonneg (ck : CK) {n : Int} (h : 0 ≤ n) : 0 ≤ ck.size n := by
  cases ck with
  | plain f t => exact h
  | packed d => show 0 ≤ (n + 1) / 2; omega
set_option maxRecDepth 100000 in
theorem ten_val {x : UInt8} (h : inRow tenL x = true) : ∃ i : Nat, i ≤ 9 ∧ x = UInt8.ofNat (48 + i) := by
  have : ∀ i : Fin 256, inRow tenL (UInt8.ofNat i.1) = true → 48 ≤ i.1 ∧ i.1 ≤ 57 := by decide
  have h2 := this ⟨x.toNat, x.toNat_lt⟩ (by rw [UInt8.ofNat_toNat]; exact h)
  refine ⟨x.toNat - 48, by have := h2.2; simp only at this; omega, ?_⟩
  have h3 := h2.1
  simp only at h3
  rw [show 48 + (x.toNat - 48) = x.toNat by omega, UInt8.ofNat_toNat]
theorem toldN_at (i j : Nat) (hi : i ≤ 9) (hj : j ≤ 9) : toldN [UInt8.ofNat (48 + i), UInt8.ofNat (48 + j)] = 10 * (i : Int) + (j : Int) := by
  have : ∀ i j : Fin 10, toldN [UInt8.ofNat (48 + i.1), UInt8.ofNat (48 + j.1)] = 10 * (i.1 : Int) + (j.1 : Int) := by decide
  exact this ⟨i, by omega⟩ ⟨j, by omega⟩
theorem nat_at (i : Nat) (hi : i ≤ 9) : ((UInt8.ofNat (48 + i)).toNat : Int) = 48 + (i : Int) := by
  rw [UInt8.toNat_ofNat_of_lt' (by show 48 + i < 256; omega)]
  omega
theorem next_digits {c n : Int} {l : List UInt8} (hn : 0 ≤ n) (h : (nextL (digitsC c) n l 0).2.2 = 0) : (nextL (digitsC c) n l 0).1.all (inRow tenL) = true ∧ ((nextL (digitsC c) n l 0).1.length : Int) = n := by
  unfold nextL at h ⊢
  have hs := size_nonneg (digitsC c) hn
  rw [if_neg (by decide)] at h ⊢
  split at h
  · cases h
  · rename_i hlt
    rw [if_neg hlt]
    cases e : (digitsC c).take (l.take ((digitsC c).size n).toNat) n with
    | none => rw [e] at h; cases h
    | some t =>
      exact digits_take hn (by rw [List.length_take]; omega) e

set_option maxHeartbeats 4000000 in
set_option maxRecDepth 100000 in
theorem text_n (n c : Int) (b : Nat) (l : List UInt8) (w : World) (hrd : Rd w b l 0) (hn0 : 1 ≤ n) (hn1 : n ≤ 64) :
    Calls Try.prog 31 #[.pointer (some ⟨b, 0, none⟩), .agg #[.int .i64 1, .int .i64 n, .int .i64 c]] w (nextPost w b (textL 1 n c l)) := by
  have e : textL 1 n c l = nextL (digitsC c) n l 0 := by simp [textL]
  rw [e]
  clear e
  have HC := Lib.hid (codes_any 1 n c)
  have HRD := Aside0.mk hrd
  have hblt : b < w.heap.size := (Array.getElem?_eq_some_iff.1 hrd).1
  clear hrd
  go_enter Try.func31, Try.ntmps31
  go_wp2_with fail
  refine (HC.out _).mono ?_
  rintro e w2 ⟨vl, vd, vr, rfl, hcl, hcd, hcr, hb2⟩
  have hz2 : w.heap.size < w2.heap.size := by have := hb2.size; simp at this; omega
  have HRD2 := Aside0.mk (show Rd w2 b l 0 from blk_below (blk_alloc HRD.out _) hb2)
  obtain ⟨x0, x1, x2, x3, x4, rfl⟩ := hcl.form
  obtain ⟨y0, y1, y2, y3, y4, rfl⟩ := hcr.form
  obtain ⟨z0, z1, z2, z3, z4, rfl⟩ := hcd.form
  have hk0 : w2.cell? ⟨w.heap.size, 0, none⟩ = some (.int .i64 1) := by rw [hb2.cell (p := ⟨w.heap.size, 0, none⟩) (by simp)]; go_simp
  have hk1 : w2.cell? ⟨w.heap.size, 1, none⟩ = some (.int .i64 n) := by rw [hb2.cell (p := ⟨w.heap.size, 1, none⟩) (by simp)]; go_simp
  have hk0' := fun o1 o2 o3 => keep3 hk0 o1 o2 o3
  have hk1' := fun o1 o2 o3 => keep3 hk1 o1 o2 o3
  have HT2 := Aside0.mk (Touch.of_below (((Below.refl w.heap.size w).alloc (Nat.le_refl _) _).trans (hb2.mono (by simp))) b)
  have HCL := Aside0.mk hcl
  have HCD := Aside0.mk hcd
  have HCR := Aside0.mk hcr
  clear hb2 hcl hcd hcr hk0 hk1
  go_wp2_with fail
  refine (next_any (HCD.out.below (thr _ _ _ _)) (digits_ok c) b l 0 n (show Rd _ b l 0 from blk_below HRD2.out (thr _ _ _ _)) (by omega) (by omega)).mono ?_
  rintro e w3 ⟨rfl, hrd3, ht3⟩
  have HRD3 := Aside0.mk hrd3
  have HT3 := Aside0.mk (HT2.out.trans ((Touch.of_below (thr _ _ _ _) b).trans ht3))
  clear hrd3 ht3
  go_wp2_with fail
  go_ret
  exact ⟨rfl, HRD3.out, HT3.out⟩
set_option maxHeartbeats 4000000 in
set_option maxRecDepth 100000 in
theorem text_an (n c : Int) (b : Nat) (l : List UInt8) (w : World) (hrd : Rd w b l 0) (hn0 : 1 ≤ n) (hn1 : n ≤ 64) :
    Calls Try.prog 31 #[.pointer (some ⟨b, 0, none⟩), .agg #[.int .i64 3, .int .i64 n, .int .i64 c]] w (nextPost w b (textL 3 n c l)) := by
  have e : textL 3 n c l = nextL (lettersC c) n l 0 := by simp [textL]
  rw [e]
  clear e
  have HC := Lib.hid (codes_any 3 n c)
  have HRD := Aside0.mk hrd
  have hblt : b < w.heap.size := (Array.getElem?_eq_some_iff.1 hrd).1
  clear hrd
  go_enter Try.func31, Try.ntmps31
  go_wp2_with fail
  refine (HC.out _).mono ?_
  rintro e w2 ⟨vl, vd, vr, rfl, hcl, hcd, hcr, hb2⟩
  have hz2 : w.heap.size < w2.heap.size := by have := hb2.size; simp at this; omega
  have HRD2 := Aside0.mk (show Rd w2 b l 0 from blk_below (blk_alloc HRD.out _) hb2)
  obtain ⟨x0, x1, x2, x3, x4, rfl⟩ := hcl.form
  obtain ⟨y0, y1, y2, y3, y4, rfl⟩ := hcr.form
  obtain ⟨z0, z1, z2, z3, z4, rfl⟩ := hcd.form
  have hk0 : w2.cell? ⟨w.heap.size, 0, none⟩ = some (.int .i64 3) := by rw [hb2.cell (p := ⟨w.heap.size, 0, none⟩) (by simp)]; go_simp
  have hk1 : w2.cell? ⟨w.heap.size, 1, none⟩ = some (.int .i64 n) := by rw [hb2.cell (p := ⟨w.heap.size, 1, none⟩) (by simp)]; go_simp
  have hk0' := fun o1 o2 o3 => keep3 hk0 o1 o2 o3
  have hk1' := fun o1 o2 o3 => keep3 hk1 o1 o2 o3
  have HT2 := Aside0.mk (Touch.of_below (((Below.refl w.heap.size w).alloc (Nat.le_refl _) _).trans (hb2.mono (by simp))) b)
  have HCL := Aside0.mk hcl
  have HCD := Aside0.mk hcd
  have HCR := Aside0.mk hcr
  clear hb2 hcl hcd hcr hk0 hk1
  go_wp2_with fail
  refine (next_any (HCL.out.below (thr _ _ _ _)) (letters_okT c) b l 0 n (show Rd _ b l 0 from blk_below HRD2.out (thr _ _ _ _)) (by omega) (by omega)).mono ?_
  rintro e w3 ⟨rfl, hrd3, ht3⟩
  have HRD3 := Aside0.mk hrd3
  have HT3 := Aside0.mk (HT2.out.trans ((Touch.of_below (thr _ _ _ _) b).trans ht3))
  clear hrd3 ht3
  go_wp2_with fail
  go_ret
  exact ⟨rfl, HRD3.out, HT3.out⟩
set_option maxHeartbeats 4000000 in
set_option maxRecDepth 100000 in
theorem text_b (n c : Int) (b : Nat) (l : List UInt8) (w : World) (hrd : Rd w b l 0) (hn0 : 1 ≤ n) (hn1 : n ≤ 64) :
    Calls Try.prog 31 #[.pointer (some ⟨b, 0, none⟩), .agg #[.int .i64 4, .int .i64 n, .int .i64 c]] w (nextPost w b (textL 4 n c l)) := by
  have e : textL 4 n c l = nextL (rawC c) (2 * n) l 0 := by simp [textL]
  rw [e]
  clear e
  have HC := Lib.hid (codes_any 4 n c)
  have HRD := Aside0.mk hrd
  have hblt : b < w.heap.size := (Array.getElem?_eq_some_iff.1 hrd).1
  clear hrd
  go_enter Try.func31, Try.ntmps31
  go_wp2_with fail
  refine (HC.out _).mono ?_
  rintro e w2 ⟨vl, vd, vr, rfl, hcl, hcd, hcr, hb2⟩
  have hz2 : w.heap.size < w2.heap.size := by have := hb2.size; simp at this; omega
  have HRD2 := Aside0.mk (show Rd w2 b l 0 from blk_below (blk_alloc HRD.out _) hb2)
  obtain ⟨x0, x1, x2, x3, x4, rfl⟩ := hcl.form
  obtain ⟨y0, y1, y2, y3, y4, rfl⟩ := hcr.form
  obtain ⟨z0, z1, z2, z3, z4, rfl⟩ := hcd.form
  have hk0 : w2.cell? ⟨w.heap.size, 0, none⟩ = some (.int .i64 4) := by rw [hb2.cell (p := ⟨w.heap.size, 0, none⟩) (by simp)]; go_simp
  have hk1 : w2.cell? ⟨w.heap.size, 1, none⟩ = some (.int .i64 n) := by rw [hb2.cell (p := ⟨w.heap.size, 1, none⟩) (by simp)]; go_simp
  have hk0' := fun o1 o2 o3 => keep3 hk0 o1 o2 o3
  have hk1' := fun o1 o2 o3 => keep3 hk1 o1 o2 o3
  have HT2 := Aside0.mk (Touch.of_below (((Below.refl w.heap.size w).alloc (Nat.le_refl _) _).trans (hb2.mono (by simp))) b)
  have HCL := Aside0.mk hcl
  have HCD := Aside0.mk hcd
  have HCR := Aside0.mk hcr
  clear hb2 hcl hcd hcr hk0 hk1
  go_wp2_with fail
  refine (next_any (HCR.out.below (thr _ _ _ _)) (raws_ok c) b l 0 (2 * n) (show Rd _ b l 0 from blk_below HRD2.out (thr _ _ _ _)) (by omega) (by omega)).mono ?_
  rintro e w3 ⟨rfl, hrd3, ht3⟩
  have HRD3 := Aside0.mk hrd3
  have HT3 := Aside0.mk (HT2.out.trans ((Touch.of_below (thr _ _ _ _) b).trans ht3))
  clear hrd3 ht3
  go_wp2_with fail
  go_ret
  exact ⟨rfl, HRD3.out, HT3.out⟩
set_option maxHeartbeats 4000000 in
set_option maxRecDepth 100000 in
theorem text_ll (n c : Int) (b : Nat) (l : List UInt8) (w : World) (hrd : Rd w b l 0) (_hn0 : 1 ≤ n) (_hn1 : n ≤ 64) :
    Calls Try.prog 31 #[.pointer (some ⟨b, 0, none⟩), .agg #[.int .i64 2, .int .i64 n, .int .i64 c]] w (nextPost w b (textL 2 n c l)) := by
  have HE : Hid (textL 2 n c l = if (nextL (digitsC c) 2 l 0).2.2 ≠ 0 then ([], (nextL (digitsC c) 2 l 0).2)
    else nextL (digitsC c) (toldN (nextL (digitsC c) 2 l 0).1) (nextL (digitsC c) 2 l 0).2.1 (if toldN (nextL (digitsC c) 2 l 0).1 < 1 ∨ n < toldN (nextL (digitsC c) 2 l 0).1 then 42 else 0)) := Lib.hid (by simp [textL])
  generalize textL 2 n c l = R at HE ⊢
  have HC := Lib.hid (codes_any 2 n c)
  have HRD := Aside0.mk hrd
  have hblt : b < w.heap.size := (Array.getElem?_eq_some_iff.1 hrd).1
  clear hrd
  go_enter Try.func31, Try.ntmps31
  go_wp2_with fail
  refine (HC.out _).mono ?_
  rintro e w2 ⟨vl, vd, vr, rfl, hcl, hcd, hcr, hb2⟩
  have hz2 : w.heap.size < w2.heap.size := by have := hb2.size; simp at this; omega
  have HRD2 := Aside0.mk (show Rd w2 b l 0 from blk_below (blk_alloc HRD.out _) hb2)
  obtain ⟨x0, x1, x2, x3, x4, rfl⟩ := hcl.form
  obtain ⟨y0, y1, y2, y3, y4, rfl⟩ := hcr.form
  obtain ⟨z0, z1, z2, z3, z4, rfl⟩ := hcd.form
  have hk0 : w2.cell? ⟨w.heap.size, 0, none⟩ = some (.int .i64 2) := by rw [hb2.cell (p := ⟨w.heap.size, 0, none⟩) (by simp)]; go_simp
  have hk1 : w2.cell? ⟨w.heap.size, 1, none⟩ = some (.int .i64 n) := by rw [hb2.cell (p := ⟨w.heap.size, 1, none⟩) (by simp)]; go_simp
  have hk0' := fun o1 o2 o3 => keep3 hk0 o1 o2 o3
  have hk1' := fun o1 o2 o3 => keep3 hk1 o1 o2 o3
  have HT2 := Aside0.mk (Touch.of_below (((Below.refl w.heap.size w).alloc (Nat.le_refl _) _).trans (hb2.mono (by simp))) b)
  have HCL := Aside0.mk hcl
  have HCD := Aside0.mk hcd
  have HCR := Aside0.mk hcr
  clear hb2 hcl hcd hcr hk0 hk1
  go_wp2_with fail
  refine (next_any (HCD.out.below (thr _ _ _ _)) (digits_ok c) b l 0 2 (show Rd _ b l 0 from blk_below HRD2.out (thr _ _ _ _)) (by omega) (by omega)).mono ?_
  rintro e w3 ⟨rfl, hrd3, ht3⟩
  have hd := fun h => next_digits (c := c) (n := 2) (l := l) (by decide) h
  generalize nextL (digitsC c) 2 l 0 = a at hd HE hrd3 ⊢
  obtain ⟨t, l', e'⟩ := a
  simp only at hd hrd3 ⊢
  have HRD3 := Aside0.mk hrd3
  have hr31 : w3.cell? ⟨b, 1, none⟩ = some (.int .i64 e') := blk_cell hrd3 1
  have hrf1 : w3.frozen? ⟨b, 1, none⟩ = false := blk_frozen hrd3 1
  have HT3 := Aside0.mk (HT2.out.trans ((Touch.of_below (thr _ _ _ _) b).trans ht3))
  have hf1 : w3.cell? ⟨w.heap.size, 1, none⟩ = some (.int .i64 n) := ht3.cell (by show w.heap.size ≠ b; omega) (hk1' _ _ _)
  have hbx0 : w3.cell? ⟨w2.heap.size + 1, 0, none⟩ = some (.func (.func z0) #[] z1) := ht3.cell (by show w2.heap.size + 1 ≠ b; omega) (by go_simp)
  have hbx1 : w3.cell? ⟨w2.heap.size + 1, 1, none⟩ = some (.func (.func z2) #[] #[]) := ht3.cell (by show w2.heap.size + 1 ≠ b; omega) (by go_simp)
  have hbx2 : w3.cell? ⟨w2.heap.size + 1, 2, none⟩ = some (.func (.func z3) #[] z4) := ht3.cell (by show w2.heap.size + 1 ≠ b; omega) (by go_simp)
  have HCD3 := Aside0.mk ((HCD.out.below (thr _ _ _ _)).touch (b := b) (by simp; omega) ht3)
  clear ht3 hrd3 hk0' hk1'
  by_cases he : e' = 0
  · subst he
    obtain ⟨hall, hlen⟩ := hd rfl
    have hlen' : t.length = 2 := by omega
    obtain ⟨x, y, rfl⟩ : ∃ x y, t = [x, y] := by
      match t, hlen' with
      | [x, y], _ => exact ⟨x, y, rfl⟩
    clear hd hlen hlen'
    simp only [List.all_cons, List.all_nil, Bool.and_true, Bool.and_eq_true] at hall
    obtain ⟨i, hi, rfl⟩ := ten_val hall.1
    obtain ⟨j, hj, rfl⟩ := ten_val hall.2
    clear hall
    rw [toldN_at i j hi hj] at HE
    have hx := nat_at i hi
    have hy := nat_at j hj
    generalize UInt8.ofNat (48 + i) = x at *
    generalize UInt8.ofNat (48 + j) = y at *
    have hw1 : IntKind.u8.wrap ((x.toNat : Int) - 48) = (i : Int) := by rw [hx, show (48 + (i : Int) - 48) = (i : Int) by omega]; exact IntWalk.u8_in _ (by omega)
    have hw2 : IntKind.u8.wrap ((y.toNat : Int) - 48) = (j : Int) := by rw [hy, show (48 + (j : Int) - 48) = (j : Int) by omega]; exact IntWalk.u8_in _ (by omega)
    have hw3 : IntKind.i64.wrap ((i : Int) * 10) = (i : Int) * 10 := IntWalk.i64_in _ (by omega)
    have hw4 : IntKind.i64.wrap ((i : Int) * 10 + (j : Int)) = (i : Int) * 10 + (j : Int) := IntWalk.i64_in _ (by omega)
    have hw5 : IntKind.i64.wrap (i : Int) = (i : Int) := IntWalk.i64_in _ (by omega)
    have hw6 : IntKind.i64.wrap (j : Int) = (j : Int) := IntWalk.i64_in _ (by omega)
    go_wp2_with fail
    go_region
    have hV : ((((⟨#[x, y]⟩ : ByteArray)[0]'(show 0 < 2 by decide)).toNat : Int) - (48 : Int)) % (256 : Int) * (10 : Int) + ((((⟨#[x, y]⟩ : ByteArray)[1]'(show 1 < 2 by decide)).toNat : Int) - (48 : Int)) % (256 : Int) = 10 * (i : Int) + (j : Int) := by
      show ((x.toNat : Int) - 48) % 256 * 10 + ((y.toNat : Int) - 48) % 256 = _
      omega
    rw [hV]
    clear hV hw1 hw2 hw3 hw4 hw5 hw6
    have hm0 : 0 ≤ 10 * (i : Int) + (j : Int) := by omega
    have hm1 : 10 * (i : Int) + (j : Int) ≤ 99 := by omega
    generalize 10 * (i : Int) + (j : Int) = m at *
    clear hx hy
    by_cases hb1 : m < 1
    · have hR : R = nextL (digitsC c) m l' 42 := by rw [HE.out]; simp [hb1]
      subst hR
      go_wp2_with fail
      refine (next_any (HCD3.out.touch (b := b) (by simp; omega) ((Touch.set w3 1 (.int .i64 42)).trans (Touch.of_below (Below.refl _ _).drew b))) (digits_ok c) b l' 42 m (blk_drew (blk_set HRD3.out 1 (.int .i64 42))) (by omega) (by omega)).mono ?_
      rintro e w4 ⟨rfl, hrd4, ht4⟩
      have HRD4 := Aside0.mk hrd4
      have HT4 := Aside0.mk (HT3.out.trans (((Touch.set w3 1 (.int .i64 42)).trans (Touch.of_below (Below.refl _ _).drew b)).trans ht4))
      clear hrd4 ht4
      go_wp2_with fail
      go_ret
      exact ⟨rfl, HRD4.out, HT4.out⟩
    · by_cases hb2 : n < m
      · have hR : R = nextL (digitsC c) m l' 42 := by rw [HE.out]; simp [hb2]
        subst hR
        go_wp2_with fail
        refine (next_any (HCD3.out.touch (b := b) (by simp; omega) ((Touch.set w3 1 (.int .i64 42)).trans (Touch.of_below (Below.refl _ _).drew b))) (digits_ok c) b l' 42 m (blk_drew (blk_set HRD3.out 1 (.int .i64 42))) (by omega) (by omega)).mono ?_
        rintro e w4 ⟨rfl, hrd4, ht4⟩
        have HRD4 := Aside0.mk hrd4
        have HT4 := Aside0.mk (HT3.out.trans (((Touch.set w3 1 (.int .i64 42)).trans (Touch.of_below (Below.refl _ _).drew b)).trans ht4))
        clear hrd4 ht4
        go_wp2_with fail
        go_ret
        exact ⟨rfl, HRD4.out, HT4.out⟩
      · have hR : R = nextL (digitsC c) m l' 0 := by rw [HE.out]; simp [hb1, hb2]
        subst hR
        go_wp2_with fail
        refine (next_any (HCD3.out.touch (b := b) (by simp; omega) (Touch.of_below (Below.refl _ _).drew b)) (digits_ok c) b l' 0 m (blk_drew HRD3.out) (by omega) (by omega)).mono ?_
        rintro e w4 ⟨rfl, hrd4, ht4⟩
        have HRD4 := Aside0.mk hrd4
        have HT4 := Aside0.mk (HT3.out.trans ((Touch.of_below (Below.refl _ _).drew b).trans ht4))
        clear hrd4 ht4
        go_wp2_with fail
        go_ret
        exact ⟨rfl, HRD4.out, HT4.out⟩
  · have hne : (e' != 0) = true := by simpa using he
    have hR : R = ([], (l', e')) := by rw [HE.out, if_pos he]
    subst hR
    clear hd he HE
    go_wp2_with fail
    go_ret
    exact ⟨rfl, HRD3.out, HT3.out⟩
end Go.Proofs.Ytcgfbdleapjigaa.fieldw

namespace Go.Proofs.Ytcgfbdleapjigaa.fieldw
open Go.RowKit Go.Proofs.Ytcgfbdleapjigaa.fieldp Go.Proofs.YtcgfbdleapjigaaW.PrintWords Go.Proofs.YtcgfbdleapjigaaW.PrintLast

theorem size_range (ck : CK) {n : Int} (h : 0 ≤ n) (h1 : n ≤ 1000) : 0 ≤ ck.size n ∧ ck.size n ≤ 1000 := by
  cases ck with
  | plain f t => exact ⟨h, h1⟩
  | packed d => exact ⟨by show 0 ≤ (n + 1) / 2; omega, by show (n + 1) / 2 ≤ 1000; omega⟩

theorem join_arr (a b : List UInt8) : (⟨(a ++ b).toArray⟩ : ByteArray) = ⟨a.toArray⟩ ++ ⟨b.toArray⟩ := by
  have : ((⟨a.toArray⟩ : ByteArray) ++ ⟨b.toArray⟩).data = (a ++ b).toArray := by simp
  cases h : (⟨a.toArray⟩ : ByteArray) ++ ⟨b.toArray⟩ with
  | mk d => rw [h] at this; simp only at this; rw [this]
theorem take_len {ck : CK} {n : Int} {l t : List UInt8} (hn : 0 ≤ n) (hl : (l.length : Int) = ck.size n) (h : ck.take l n = some t) : (t.length : Int) = n := by
  cases ck with
  | plain f u =>
    have h' : turnL u.data.toList f.data.toList l = some t := h
    have hl' : (l.length : Int) = n := hl
    rw [turnL_length _ _ _ _ h']; exact hl'
  | packed d =>
    have h' : takePacked d.data.toList l n.toNat = some t := h
    unfold takePacked at h'
    have : ofB t d.data.toList n.toNat = true := by
      split at h'
      · split at h'
        · split at h'
          · cases h'; assumption
          · cases h'
        · cases h'
      · split at h'
        · cases h'; assumption
        · cases h'
    have := (ofB_all this).2
    omega
theorem next_len (ck : CK) {n : Int} (l : List UInt8) (e : Int) (hn : 0 ≤ n) : ((nextL ck n l e).1.length : Int) ≤ n := by
  unfold nextL
  split
  · exact hn
  · split
    · exact hn
    · rename_i hlt
      have hs := size_nonneg ck hn
      cases h : ck.take (l.take (ck.size n).toNat) n with
      | none => exact hn
      | some t =>
        have := take_len hn (by rw [List.length_take]; omega) h
        exact Int.le_of_eq this

set_option maxHeartbeats 4000000 in
set_option maxRecDepth 100000 in
theorem text_x (n c : Int) (b : Nat) (l : List UInt8) (w : World) (hrd : Rd w b l 0) (hn0 : 1 ≤ n) (hn1 : n ≤ 64) :
    Calls Try.prog 31 #[.pointer (some ⟨b, 0, none⟩), .agg #[.int .i64 5, .int .i64 n, .int .i64 c]] w (nextPost w b (textL 5 n c l)) := by
  have HE : Hid (textL 5 n c l = if (l.length : Int) < (lettersC c).size 1 + (digitsC c).size n then ([], l, 43)
    else ((nextL (lettersC c) 1 l 0).1 ++ (nextL (digitsC c) n (nextL (lettersC c) 1 l 0).2.1 (nextL (lettersC c) 1 l 0).2.2).1, (nextL (digitsC c) n (nextL (lettersC c) 1 l 0).2.1 (nextL (lettersC c) 1 l 0).2.2).2)) := Lib.hid (by simp [textL])
  generalize textL 5 n c l = R at HE ⊢
  have hn1a := next_len (lettersC c) l 0 (n := 1) (by decide)
  have hn2a := next_len (digitsC c) (nextL (lettersC c) 1 l 0).2.1 (nextL (lettersC c) 1 l 0).2.2 (n := n) (by omega)
  have hc1 := fun (W : World) (lo : Nat) (v : Value) (hc : CodeAt W lo v (lettersC c)) (hr : Rd W b l 0) => next_any hc (letters_okT c) b l 0 1 hr (by decide) (by decide)
  have hc2 := fun (W : World) (lo : Nat) (v : Value) (hc : CodeAt W lo v (digitsC c)) (hr : Rd W b (nextL (lettersC c) 1 l 0).2.1 (nextL (lettersC c) 1 l 0).2.2) => next_any hc (digits_ok c) b (nextL (lettersC c) 1 l 0).2.1 (nextL (lettersC c) 1 l 0).2.2 n hr (by omega) (by omega)
  generalize nextL (lettersC c) 1 l 0 = a1 at HE hn1a hn2a hc1 hc2
  obtain ⟨t1, l1, e1⟩ := a1
  simp only at HE hn1a hn2a hc1 hc2
  generalize nextL (digitsC c) n l1 e1 = a2 at HE hn2a hc2
  obtain ⟨t2, l2, e2⟩ := a2
  simp only at HE hn2a hc2
  obtain ⟨S1, hS1⟩ : ∃ S : ByteArray, S = ⟨t1.toArray⟩ := ⟨_, rfl⟩
  obtain ⟨S2, hS2⟩ : ∃ S : ByteArray, S = ⟨t2.toArray⟩ := ⟨_, rfl⟩
  have HS1 := Aside0.mk (show S1.size ≤ 1 ∧ S1 = ⟨t1.toArray⟩ from ⟨by rw [hS1, size_arr]; omega, hS1⟩)
  have HS2 := Aside0.mk (show S2.size ≤ 64 ∧ S2 = ⟨t2.toArray⟩ from ⟨by rw [hS2, size_arr]; omega, hS2⟩)
  have HC1 := Lib.hid (show ∀ (W : World) (lo : Nat) (v : Value), CodeAt W lo v (lettersC c) → Rd W b l 0 → Calls Try.prog 48 #[.pointer (some ⟨b, 0, none⟩), v, .int .i64 1] W (fun e w' => e = .returned (.string S1) ∧ Rd w' b l1 e1 ∧ Touch b W w') from by rw [hS1]; exact hc1)
  have HC2 := Lib.hid (show ∀ (W : World) (lo : Nat) (v : Value), CodeAt W lo v (digitsC c) → Rd W b l1 e1 → Calls Try.prog 48 #[.pointer (some ⟨b, 0, none⟩), v, .int .i64 n] W (fun e w' => e = .returned (.string S2) ∧ Rd w' b l2 e2 ∧ Touch b W w') from by rw [hS2]; exact hc2)
  clear hS1 hS2 hc1 hc2 hn1a hn2a
  have hs1 : 0 ≤ (lettersC c).size 1 ∧ (lettersC c).size 1 ≤ 1000 := size_range _ (by decide) (by decide)
  have hs2 : 0 ≤ (digitsC c).size n ∧ (digitsC c).size n ≤ 1000 := size_range _ (by omega) (by omega)
  have HC := Lib.hid (codes_any 5 n c)
  have HRD := Aside0.mk hrd
  have hblt : b < w.heap.size := (Array.getElem?_eq_some_iff.1 hrd).1
  clear hrd
  go_enter Try.func31, Try.ntmps31
  go_wp2_with fail
  refine (HC.out _).mono ?_
  rintro e w2 ⟨vl, vd, vr, rfl, hcl, hcd, hcr, hb2⟩
  have hz2 : w.heap.size < w2.heap.size := by have := hb2.size; simp at this; omega
  have HRD2 := Aside0.mk (show Rd w2 b l 0 from blk_below (blk_alloc HRD.out _) hb2)
  obtain ⟨x0, x1, x2, x3, x4, rfl, hex2, -, hxs, -⟩ := hcl.takes (letters_okT c)
  obtain ⟨y0, y1, y2, y3, y4, rfl⟩ := hcr.form
  obtain ⟨z0, z1, z2, z3, z4, rfl, hez2, -, hzs, -⟩ := hcd.takes (digits_ok c)
  have HX2 := Lib.hid hex2
  have HZ2 := Lib.hid hez2
  have HXS := Lib.hid (hxs 1 (by decide) (by decide))
  have HZS := Lib.hid (hzs n (by omega) (by omega))
  clear hex2 hez2 hxs hzs
  generalize (lettersC c).size 1 = k1 at HXS hs1 HE
  generalize (digitsC c).size n = k2 at HZS hs2 HE
  have hsum : IntKind.i64.wrap (k1 + k2) = k1 + k2 := IntWalk.i64_in _ (by omega)
  have hk0 : w2.cell? ⟨w.heap.size, 0, none⟩ = some (.int .i64 5) := by rw [hb2.cell (p := ⟨w.heap.size, 0, none⟩) (by simp)]; go_simp
  have hk1 : w2.cell? ⟨w.heap.size, 1, none⟩ = some (.int .i64 n) := by rw [hb2.cell (p := ⟨w.heap.size, 1, none⟩) (by simp)]; go_simp
  have hk0' := fun o1 o2 o3 => keep3 hk0 o1 o2 o3
  have hk1' := fun o1 o2 o3 => keep3 hk1 o1 o2 o3
  have HT2 := Aside0.mk (Touch.of_below (((Below.refl w.heap.size w).alloc (Nat.le_refl _) _).trans (hb2.mono (by simp))) b)
  have HCL := Aside0.mk hcl
  have HCD := Aside0.mk hcd
  have HCR := Aside0.mk hcr
  clear hb2 hcl hcd hcr hk0 hk1
  have hr0 : w2.cell? ⟨b, 0, none⟩ = some (.string ⟨l.toArray⟩) := blk_cell HRD2.out 0
  have hr0' := fun o1 o2 o3 => keep3 hr0 o1 o2 o3
  have hsl : (⟨l.toArray⟩ : ByteArray).size = l.length := size_arr l
  go_wp2_with fail
  go_region_held3 (fun w' => w'.cell? ⟨w2.heap.size, 1, none⟩ = some (.func (.func x2) #[] #[]) ∧ w'.cell? ⟨w2.heap.size + 1, 1, none⟩ = some (.func (.func z2) #[] #[]) ∧ w'.cell? ⟨b, 0, none⟩ = some (.string ⟨l.toArray⟩)) (go_keep)
    (first | (rw [HX2.out, Oper.upon_enter]; refine (HXS.out _).mono ?_; rintro e_ w3 ⟨rfl, rfl⟩) | (rw [HZ2.out, Oper.upon_enter]; refine (HZS.out _).mono ?_; rintro e_ w3 ⟨rfl, rfl⟩))
  all_goals
    by_cases hlt : (l.length : Int) < k1 + k2
    · have hR : R = ([], l, 43) := by rw [HE.out, if_pos hlt]
      subst hR
      have hrf1 : w2.frozen? ⟨b, 1, none⟩ = false := blk_frozen HRD2.out 1
      have hbl2 : b < w2.heap.size := by omega
      have hbl3 : b < w2.heap.size + 1 := by omega
      have hbl4 : b < w2.heap.size + 1 + 1 := by omega
      have hr12 : w2.cell? ⟨b, 1, none⟩ = some (.int .i64 0) := blk_cell HRD2.out 1
      clear HE
      go_wp2_with fail
      go_ret
      exact ⟨rfl, blk_drew (blk_alloc (blk_alloc (blk_alloc (blk_set HRD2.out 1 _) _) _) _), HT2.out.trans ((Touch.set w2 1 _).trans (Touch.of_below (thr _ _ _ _).drew b))⟩
    · have hR : R = (t1 ++ t2, l2, e2) := by rw [HE.out, if_neg hlt]
      subst hR
      have HW := Aside0.mk (show ∀ o1 o2 o3 : Obj, Rd ((((w2.alloc o1).alloc o2).alloc o3).drew.drew) b l 0 from fun o1 o2 o3 => blk_below HRD2.out ((thr _ _ _ _).drew.drew))
      have HWL := Aside0.mk (show ∀ o1 o2 o3 : Obj, CodeAt ((((w2.alloc o1).alloc o2).alloc o3).drew.drew) _ _ (lettersC c) from fun o1 o2 o3 => HCL.out.below ((thr _ _ _ _).drew.drew))
      have HWD := Aside0.mk (show ∀ o1 o2 o3 : Obj, CodeAt ((((w2.alloc o1).alloc o2).alloc o3).drew.drew) _ _ (digitsC c) from fun o1 o2 o3 => HCD.out.below ((thr _ _ _ _).drew.drew))
      have hs1 : S1.size ≤ 1 := HS1.out.1
      have hs2 : S2.size ≤ 64 := HS2.out.1
      have hss : ¬ 9223372036854775807 < S1.size + S2.size := by omega
      clear HE
      go_wp2_with fail
      go_region_held3 (fun w' => w'.cell? ⟨w2.heap.size, 0, none⟩ = some (.func (.func x0) #[] x1) ∧ w'.cell? ⟨w2.heap.size, 1, none⟩ = some (.func (.func x2) #[] #[]) ∧ w'.cell? ⟨w2.heap.size, 2, none⟩ = some (.func (.func x3) #[] x4) ∧ w'.cell? ⟨w2.heap.size + 1, 0, none⟩ = some (.func (.func z0) #[] z1) ∧ w'.cell? ⟨w2.heap.size + 1, 1, none⟩ = some (.func (.func z2) #[] #[]) ∧ w'.cell? ⟨w2.heap.size + 1, 2, none⟩ = some (.func (.func z3) #[] z4)) (go_keep)
        (first | (go_at_call 48; (with_reducible refine (HC1.out _ _ _ (HWL.out _ _ _) (HW.out _ _ _)).mono ?_); rintro e_ w4 ⟨rfl, hrd4, ht4⟩; have g00 : w4.cell? ⟨w2.heap.size, 0, none⟩ = some (.func (.func x0) #[] x1) := ht4.cell (by show w2.heap.size ≠ b; omega) (by go_simp); have g01 : w4.cell? ⟨w2.heap.size, 1, none⟩ = some (.func (.func x2) #[] #[]) := ht4.cell (by show w2.heap.size ≠ b; omega) (by go_simp); have g02 : w4.cell? ⟨w2.heap.size, 2, none⟩ = some (.func (.func x3) #[] x4) := ht4.cell (by show w2.heap.size ≠ b; omega) (by go_simp); have g10 : w4.cell? ⟨w2.heap.size + 1, 0, none⟩ = some (.func (.func z0) #[] z1) := ht4.cell (by show w2.heap.size + 1 ≠ b; omega) (by go_simp); have g11 : w4.cell? ⟨w2.heap.size + 1, 1, none⟩ = some (.func (.func z2) #[] #[]) := ht4.cell (by show w2.heap.size + 1 ≠ b; omega) (by go_simp); have g12 : w4.cell? ⟨w2.heap.size + 1, 2, none⟩ = some (.func (.func z3) #[] z4) := ht4.cell (by show w2.heap.size + 1 ≠ b; omega) (by go_simp); have HCD4 := Aside0.mk ((HWD.out _ _ _).touch (b := b) (by simp; omega) ht4); have HT4 := Aside0.mk (HT2.out.trans ((Touch.of_below ((thr _ _ _ _).drew.drew) b).trans ht4)); have HRD4 := Aside0.mk hrd4; clear ht4 hrd4) | (go_at_call 48; (with_reducible refine (HC2.out _ _ _ HCD4.out HRD4.out).mono ?_); rintro e_ w5 ⟨rfl, hrd5, ht5⟩; have k00 : w5.cell? ⟨w2.heap.size, 0, none⟩ = some (.func (.func x0) #[] x1) := ht5.cell (by show w2.heap.size ≠ b; omega) g00; have k01 : w5.cell? ⟨w2.heap.size, 1, none⟩ = some (.func (.func x2) #[] #[]) := ht5.cell (by show w2.heap.size ≠ b; omega) g01; have k02 : w5.cell? ⟨w2.heap.size, 2, none⟩ = some (.func (.func x3) #[] x4) := ht5.cell (by show w2.heap.size ≠ b; omega) g02; have k10 : w5.cell? ⟨w2.heap.size + 1, 0, none⟩ = some (.func (.func z0) #[] z1) := ht5.cell (by show w2.heap.size + 1 ≠ b; omega) g10; have k11 : w5.cell? ⟨w2.heap.size + 1, 1, none⟩ = some (.func (.func z2) #[] #[]) := ht5.cell (by show w2.heap.size + 1 ≠ b; omega) g11; have k12 : w5.cell? ⟨w2.heap.size + 1, 2, none⟩ = some (.func (.func z3) #[] z4) := ht5.cell (by show w2.heap.size + 1 ≠ b; omega) g12; have HT5 := Aside0.mk (HT4.out.trans ht5); have HRD5 := Aside0.mk hrd5; clear ht5 hrd5))
      go_wp2_with fail
      go_ret
      exact ⟨by rw [show (⟨(t1 ++ t2).toArray⟩ : ByteArray) = S1 ++ S2 from by rw [HS1.out.2, HS2.out.2]; exact join_arr t1 t2]; rfl, HRD5.out, HT5.out⟩

end Go.Proofs.Ytcgfbdleapjigaa.fieldw
