/- Walks of layer 4's codes: what they put, and what they take. Conditions: as each theorem says. -/
import Derived.Test.YtcgfbdleapjigaaFieldWalksB
import Derived.Laws.EntriesVeiled
namespace Go.Proofs.Ytcgfbdleapjigaa.fieldw
open Go.RowKit Go.Proofs.Ytcgfbdleapjigaa.fieldp

theorem bcell {W w1 : World} (hb : Below W.heap.size W w1) : (∀ b o, b < W.heap.size → w1.cell? ⟨b, o, none⟩ = W.cell? ⟨b, o, none⟩) ∧ (∀ b o, b < W.heap.size → w1.frozen? ⟨b, o, none⟩ = W.frozen? ⟨b, o, none⟩) :=
  ⟨fun b o h => hb.cell (p := ⟨b, o, none⟩) h, fun b o h => hb.frozen (p := ⟨b, o, none⟩) h⟩

def mayB (k n c : Int) : Bool := decide (1 ≤ k ∧ k ≤ 5 ∧ 1 ≤ n ∧ n ≤ 64 ∧ 1 ≤ c ∧ c ≤ 3)

theorem within_any (n m : Int) (w : World) : Calls Try.prog 45 #[.int .i64 n, .int .i64 m] w fun e w' => e = .returned (.bool (decide (0 < n ∧ n ≤ m))) ∧ w = w' := by
  by_cases h1 : 0 < n <;> by_cases h2 : n ≤ m
  all_goals
    go_enter Try.func45, Try.ntmps45
    go_wp2
    go_ret
    exact ⟨by simp [h1, h2], rfl⟩

set_option maxHeartbeats 2000000 in
set_option maxRecDepth 100000 in
theorem may_any (k n c : Int) (w : World) : Calls Try.prog 27 #[.agg #[.int .i64 k, .int .i64 n, .int .i64 c]] w fun e w' => e = .returned (.bool (mayB k n c)) ∧ Below w.heap.size w w' := by
  have e : mayB k n c = (decide (0 < k ∧ k ≤ 5) && (decide (0 < n ∧ n ≤ 64) && decide (0 < c ∧ c ≤ 3))) := by
    unfold mayB
    rw [Bool.eq_iff_iff]
    simp only [Bool.and_eq_true, decide_eq_true_eq]
    omega
  have HE := Lib.hid e
  clear e
  have H1 := Lib.hid (within_any k 5)
  have H2 := Lib.hid (within_any n 64)
  have H3 := Lib.hid (within_any c 3)
  generalize decide (0 < k ∧ k ≤ 5) = b1 at HE H1
  generalize decide (0 < n ∧ n ≤ 64) = b2 at HE H2
  generalize decide (0 < c ∧ c ≤ 3) = b3 at HE H3
  cases b1
  case false =>
    go_enter Try.func27, Try.ntmps27
    go_wp2_with fail
    refine (H1.out _).mono ?_
    rintro e w1 ⟨rfl, rfl⟩
    go_wp2_with fail
    go_ret
    exact ⟨by rw [HE.out]; rfl, (Below.refl _ _).alloc (Nat.le_refl _) _⟩
  case true =>
    cases b2
    case false =>
      go_enter Try.func27, Try.ntmps27
      go_wp2_with fail
      refine (H1.out _).mono ?_
      rintro e w1 ⟨rfl, rfl⟩
      go_wp2_with fail
      refine (H2.out _).mono ?_
      rintro e w1 ⟨rfl, rfl⟩
      go_wp2_with fail
      go_ret
      exact ⟨by rw [HE.out]; rfl, (Below.refl _ _).alloc (Nat.le_refl _) _⟩
    case true =>
      cases b3
      all_goals
        go_enter Try.func27, Try.ntmps27
        go_wp2_with fail
        refine (H1.out _).mono ?_
        rintro e w1 ⟨rfl, rfl⟩
        go_wp2_with fail
        refine (H2.out _).mono ?_
        rintro e w1 ⟨rfl, rfl⟩
        go_wp2_with fail
        refine (H3.out _).mono ?_
        rintro e w1 ⟨rfl, rfl⟩
        go_wp2_with fail
        go_ret
        exact ⟨by rw [HE.out]; rfl, (Below.refl _ _).alloc (Nat.le_refl _) _⟩

/-- A code: sign by sign from one row to another one, or two digits a byte, of those of a row. -/
inductive CK where
  | plain (f t : ByteArray)
  | packed (d : ByteArray)
/-- A code's value: its three functions. -/
def CodeAt (w : World) (lo : Nat) (v : Value) : CK → Prop
  | .plain f t => ∃ a b, v = .agg #[.func (.func 58) #[] #[.pointer (some ⟨a, 0, none⟩), .pointer (some ⟨b, 0, none⟩)], .func (.func 60) #[] #[], .func (.func 61) #[] #[.pointer (some ⟨b, 0, none⟩), .pointer (some ⟨a, 0, none⟩)]] ∧
      w.cell? ⟨a, 0, none⟩ = some (.string f) ∧ w.cell? ⟨b, 0, none⟩ = some (.string t) ∧ lo ≤ a ∧ lo ≤ b
  | .packed d => ∃ a, v = .agg #[.func (.func 62) #[] #[], .func (.func 63) #[] #[], .func (.func 64) #[] #[.pointer (some ⟨a, 0, none⟩)]] ∧ w.cell? ⟨a, 0, none⟩ = some (.string d) ∧ lo ≤ a
theorem CodeAt.below {w w' : World} {lo : Nat} {v : Value} {c : CK} (h : CodeAt w lo v c) (hb : Below w.heap.size w w') : CodeAt w' lo v c := by
  cases c with
  | plain f t =>
    obtain ⟨a, b, e, h1, h2, h3, h4⟩ := h
    exact ⟨a, b, e, (hb.cell (World.block_lt_of_cell? w _ h1)).trans h1, (hb.cell (World.block_lt_of_cell? w _ h2)).trans h2, h3, h4⟩
  | packed d =>
    obtain ⟨a, e, h1, h2⟩ := h
    exact ⟨a, e, (hb.cell (World.block_lt_of_cell? w _ h1)).trans h1, h2⟩
theorem CodeAt.lower {w : World} {lo lo' : Nat} {v : Value} {c : CK} (h : CodeAt w lo v c) (hl : lo' ≤ lo) : CodeAt w lo' v c := by
  cases c with
  | plain f t =>
    obtain ⟨a, b, e, h1, h2, h3, h4⟩ := h
    exact ⟨a, b, e, h1, h2, by omega, by omega⟩
  | packed d =>
    obtain ⟨a, e, h1, h2⟩ := h
    exact ⟨a, e, h1, by omega⟩

theorem plain_any (f t : ByteArray) (w : World) : Calls Try.prog 39 #[.string f, .string t] w fun e w' => ∃ v, e = .returned v ∧ CodeAt w' w.heap.size v (.plain f t) ∧ Below w.heap.size w w' := by
  go_enter Try.func39, Try.ntmps39
  go_wp2
  refine bodyPost_ret (v := .agg #[.func (.func 58) #[] #[.pointer (some ⟨w.heap.size, 0, none⟩), .pointer (some ⟨w.heap.size + 1, 0, none⟩)], .func (.func 60) #[] #[], .func (.func 61) #[] #[.pointer (some ⟨w.heap.size + 1, 0, none⟩), .pointer (some ⟨w.heap.size, 0, none⟩)]])
    (by simp [results, Try.results39, go_sem]) rfl ⟨_, rfl, ⟨w.heap.size, w.heap.size + 1, rfl, ?_, ?_, Nat.le_refl _, by omega⟩, ?_⟩
  · go_simp
  · go_simp
  · exact (((Below.refl _ _).alloc (Nat.le_refl _) _).alloc (by simp) _).alloc (by simp; omega) _
theorem packed_any (d : ByteArray) (w : World) : Calls Try.prog 40 #[.string d] w fun e w' => ∃ v, e = .returned v ∧ CodeAt w' w.heap.size v (.packed d) ∧ Below w.heap.size w w' := by
  go_enter Try.func40, Try.ntmps40
  go_wp2
  refine bodyPost_ret (v := .agg #[.func (.func 62) #[] #[], .func (.func 63) #[] #[], .func (.func 64) #[] #[.pointer (some ⟨w.heap.size, 0, none⟩)]])
    (by simp [results, Try.results40, go_sem]) rfl ⟨_, rfl, ⟨w.heap.size, rfl, ?_, Nat.le_refl _⟩, ?_⟩
  · go_simp
  · exact ((Below.refl _ _).alloc (Nat.le_refl _) _).alloc (by simp) _

def signsB : ByteArray := ⟨#[65, 66, 67, 68, 69, 70, 71, 72, 73, 74, 75, 76, 77, 78, 79, 80, 81, 82, 83, 84, 85, 86, 87, 88, 89, 90, 48, 49, 50, 51, 52, 53, 54, 55, 56, 57, 32]⟩
def ebcB : ByteArray := ⟨#[193, 194, 195, 196, 197, 198, 199, 200, 201, 209, 210, 211, 212, 213, 214, 215, 216, 217, 226, 227, 228, 229, 230, 231, 232, 233, 240, 241, 242, 243, 244, 245, 246, 247, 248, 249, 64]⟩
def tenB : ByteArray := ⟨#[48, 49, 50, 51, 52, 53, 54, 55, 56, 57]⟩
def eb10 : ByteArray := ⟨#[240, 241, 242, 243, 244, 245, 246, 247, 248, 249]⟩
def lowB : ByteArray := ⟨#[48, 49, 50, 51, 52, 53, 54, 55, 56, 57, 97, 98, 99, 100, 101, 102]⟩
def highB : ByteArray := ⟨#[48, 49, 50, 51, 52, 53, 54, 55, 56, 57, 65, 66, 67, 68, 69, 70]⟩
def lettersC (c : Int) : CK := if c = 1 then .plain signsB signsB else if c = 2 then .plain signsB signsB else .plain signsB ebcB
def digitsC (c : Int) : CK := if c = 1 then .plain tenB tenB else if c = 2 then .packed tenB else .plain tenB eb10
def rawC (c : Int) : CK := if c = 1 then .plain lowB highB else .packed lowB

def codesPost (c : Int) (w : World) (e : Ending) (w' : World) : Prop :=
  ∃ vl vd vr, e = .returned (.tuple #[vl, vd, vr]) ∧ CodeAt w' w.heap.size vl (lettersC c) ∧ CodeAt w' w.heap.size vd (digitsC c) ∧ CodeAt w' w.heap.size vr (rawC c) ∧ Below w.heap.size w w'

theorem CodeAt.setCell {w : World} {lo : Nat} {v : Value} {c : CK} (h : CodeAt w lo v c) {p : Addr} (hp : p.block < lo) (u : Value) : CodeAt (w.setCell p u) lo v c := by
  cases c with
  | plain f t =>
    obtain ⟨a, b, e, h1, h2, h3, h4⟩ := h
    exact ⟨a, b, e, (World.cell?_setCell_other w p ⟨a, 0, none⟩ u (by intro h; subst h; exact absurd hp (by simp; omega))).trans h1, (World.cell?_setCell_other w p ⟨b, 0, none⟩ u (by intro h; subst h; exact absurd hp (by simp; omega))).trans h2, h3, h4⟩
  | packed d =>
    obtain ⟨a, e, h1, h2⟩ := h
    exact ⟨a, e, (World.cell?_setCell_other w p ⟨a, 0, none⟩ u (by intro h; subst h; exact absurd hp (by simp; omega))).trans h1, h2⟩

set_option maxHeartbeats 2000000 in
set_option maxRecDepth 100000 in
theorem codes_ascii (k n : Int) (w : World) : Calls Try.prog 25 #[.agg #[.int .i64 k, .int .i64 n, .int .i64 1]] w (codesPost 1 w) := by
  go_enter Try.func25, Try.ntmps25
  go_wp2_with fail
  refine (plain_any signsB signsB _).mono ?_
  rintro e w1 ⟨_, rfl, hk, hb⟩
  have HC1 := Lib.hid hk
  obtain ⟨a1, b1, rfl, x1, y1, la1, lb1⟩ := hk
  have HB1 := Lib.hid hb
  clear hb x1 y1 la1 lb1
  go_wp2_with fail
  refine (plain_any tenB tenB _).mono ?_
  rintro e w2 ⟨_, rfl, hk, hb⟩
  have HC2 := Lib.hid hk
  obtain ⟨a2, b2, rfl, x2, y2, la2, lb2⟩ := hk
  have HB2 := Lib.hid hb
  clear hb x2 y2 la2 lb2
  go_wp2_with fail
  refine (plain_any lowB highB _).mono ?_
  rintro e w3 ⟨_, rfl, hk, hb⟩
  have HC3 := Lib.hid hk
  obtain ⟨a3, b3, rfl, x3, y3, la3, lb3⟩ := hk
  have HB3 := Lib.hid hb
  clear hb x3 y3 la3 lb3
  have hbw := (HB1.out.trans (HB2.out.mono HB1.out.size)).trans (HB3.out.mono (Nat.le_trans HB1.out.size HB2.out.size))
  obtain ⟨hc, hf⟩ := bcell hbw
  have hz : w.heap.size + 4 ≤ w3.heap.size := by have := hbw.size; simp at this; omega
  have HBW := Lib.hid hbw
  clear hbw
  go_wp2_with fail
  have e0 : (w.heap.size + 4 : Nat) ≤ ((((w.alloc (.cells #[.int .i64 k, .int .i64 n, .int .i64 1] 24)).alloc (.cells #[.nilFunc, .nilFunc, .nilFunc] 49)).alloc (.cells #[.nilFunc, .nilFunc, .nilFunc] 49)).alloc (.cells #[.nilFunc, .nilFunc, .nilFunc] 49)).heap.size := by simp
  have C1 := ((HC1.out.below HB2.out).below HB3.out).lower e0
  have C2 := ((HC2.out.below HB3.out).lower HB1.out.size).lower e0
  have C3 := (HC3.out.lower (Nat.le_trans HB1.out.size HB2.out.size)).lower e0
  have F := Below.trans ((((((Below.refl w.heap.size w).alloc (Nat.le_refl _) _).alloc (by simp) _).alloc (by first | (simp; done) | (simp; omega)) _).alloc (by first | (simp; done) | (simp; omega)) _)) (HBW.out.mono (by simp; omega))
  refine bodyPost_ret (v := .tuple #[.agg #[.func (.func 58) #[] #[.pointer (some ⟨a1, 0, none⟩), .pointer (some ⟨b1, 0, none⟩)], .func (.func 60) #[] #[], .func (.func 61) #[] #[.pointer (some ⟨b1, 0, none⟩), .pointer (some ⟨a1, 0, none⟩)]], .agg #[.func (.func 58) #[] #[.pointer (some ⟨a2, 0, none⟩), .pointer (some ⟨b2, 0, none⟩)], .func (.func 60) #[] #[], .func (.func 61) #[] #[.pointer (some ⟨b2, 0, none⟩), .pointer (some ⟨a2, 0, none⟩)]], .agg #[.func (.func 58) #[] #[.pointer (some ⟨a3, 0, none⟩), .pointer (some ⟨b3, 0, none⟩)], .func (.func 60) #[] #[], .func (.func 61) #[] #[.pointer (some ⟨b3, 0, none⟩), .pointer (some ⟨a3, 0, none⟩)]]])
    (by simp [results, Try.results25, go_sem, hc]) rfl ⟨_, _, _, rfl, ?_, ?_, ?_, ?_⟩
  · exact CodeAt.lower ((((((((((C1).setCell (by simp) _).setCell (by simp) _).setCell (by simp) _).setCell (by simp) _).setCell (by simp) _).setCell (by simp) _).setCell (by simp) _).setCell (by simp) _).setCell (by simp) _) (Nat.le_add_right _ 4)
  · exact CodeAt.lower ((((((((((C2).setCell (by simp) _).setCell (by simp) _).setCell (by simp) _).setCell (by simp) _).setCell (by simp) _).setCell (by simp) _).setCell (by simp) _).setCell (by simp) _).setCell (by simp) _) (Nat.le_add_right _ 4)
  · exact CodeAt.lower ((((((((((C3).setCell (by simp) _).setCell (by simp) _).setCell (by simp) _).setCell (by simp) _).setCell (by simp) _).setCell (by simp) _).setCell (by simp) _).setCell (by simp) _).setCell (by simp) _) (Nat.le_add_right _ 4)
  · exact ((((((((((F).setCell (by first | (simp; done) | (simp; omega)) _).setCell (by first | (simp; done) | (simp; omega)) _).setCell (by first | (simp; done) | (simp; omega)) _).setCell (by first | (simp; done) | (simp; omega)) _).setCell (by first | (simp; done) | (simp; omega)) _).setCell (by first | (simp; done) | (simp; omega)) _).setCell (by first | (simp; done) | (simp; omega)) _).setCell (by first | (simp; done) | (simp; omega)) _).setCell (by first | (simp; done) | (simp; omega)) _)

set_option maxHeartbeats 2000000 in
set_option maxRecDepth 100000 in
theorem codes_bcd (k n : Int) (w : World) : Calls Try.prog 25 #[.agg #[.int .i64 k, .int .i64 n, .int .i64 2]] w (codesPost 2 w) := by
  go_enter Try.func25, Try.ntmps25
  go_wp2_with fail
  refine (plain_any signsB signsB _).mono ?_
  rintro e w1 ⟨_, rfl, hk, hb⟩
  have HC1 := Lib.hid hk
  obtain ⟨a1, b1, rfl, x1, y1, la1, lb1⟩ := hk
  have HB1 := Lib.hid hb
  clear hb x1 y1 la1 lb1
  go_wp2_with fail
  refine (packed_any tenB _).mono ?_
  rintro e w2 ⟨_, rfl, hk, hb⟩
  have HC2 := Lib.hid hk
  obtain ⟨a2, rfl, x2, la2⟩ := hk
  have HB2 := Lib.hid hb
  clear hb x2 la2
  go_wp2_with fail
  refine (packed_any lowB _).mono ?_
  rintro e w3 ⟨_, rfl, hk, hb⟩
  have HC3 := Lib.hid hk
  obtain ⟨a3, rfl, x3, la3⟩ := hk
  have HB3 := Lib.hid hb
  clear hb x3 la3
  have hbw := (HB1.out.trans (HB2.out.mono HB1.out.size)).trans (HB3.out.mono (Nat.le_trans HB1.out.size HB2.out.size))
  obtain ⟨hc, hf⟩ := bcell hbw
  have hz : w.heap.size + 4 ≤ w3.heap.size := by have := hbw.size; simp at this; omega
  have HBW := Lib.hid hbw
  clear hbw
  go_wp2_with fail
  have e0 : (w.heap.size + 4 : Nat) ≤ ((((w.alloc (.cells #[.int .i64 k, .int .i64 n, .int .i64 2] 24)).alloc (.cells #[.nilFunc, .nilFunc, .nilFunc] 49)).alloc (.cells #[.nilFunc, .nilFunc, .nilFunc] 49)).alloc (.cells #[.nilFunc, .nilFunc, .nilFunc] 49)).heap.size := by simp
  have C1 := ((HC1.out.below HB2.out).below HB3.out).lower e0
  have C2 := ((HC2.out.below HB3.out).lower HB1.out.size).lower e0
  have C3 := (HC3.out.lower (Nat.le_trans HB1.out.size HB2.out.size)).lower e0
  have F := Below.trans ((((((Below.refl w.heap.size w).alloc (Nat.le_refl _) _).alloc (by simp) _).alloc (by first | (simp; done) | (simp; omega)) _).alloc (by first | (simp; done) | (simp; omega)) _)) (HBW.out.mono (by simp; omega))
  refine bodyPost_ret (v := .tuple #[.agg #[.func (.func 58) #[] #[.pointer (some ⟨a1, 0, none⟩), .pointer (some ⟨b1, 0, none⟩)], .func (.func 60) #[] #[], .func (.func 61) #[] #[.pointer (some ⟨b1, 0, none⟩), .pointer (some ⟨a1, 0, none⟩)]], .agg #[.func (.func 62) #[] #[], .func (.func 63) #[] #[], .func (.func 64) #[] #[.pointer (some ⟨a2, 0, none⟩)]], .agg #[.func (.func 62) #[] #[], .func (.func 63) #[] #[], .func (.func 64) #[] #[.pointer (some ⟨a3, 0, none⟩)]]])
    (by simp [results, Try.results25, go_sem, hc]) rfl ⟨_, _, _, rfl, ?_, ?_, ?_, ?_⟩
  · exact CodeAt.lower ((((((((((C1).setCell (by simp) _).setCell (by simp) _).setCell (by simp) _).setCell (by simp) _).setCell (by simp) _).setCell (by simp) _).setCell (by simp) _).setCell (by simp) _).setCell (by simp) _) (Nat.le_add_right _ 4)
  · exact CodeAt.lower ((((((((((C2).setCell (by simp) _).setCell (by simp) _).setCell (by simp) _).setCell (by simp) _).setCell (by simp) _).setCell (by simp) _).setCell (by simp) _).setCell (by simp) _).setCell (by simp) _) (Nat.le_add_right _ 4)
  · exact CodeAt.lower ((((((((((C3).setCell (by simp) _).setCell (by simp) _).setCell (by simp) _).setCell (by simp) _).setCell (by simp) _).setCell (by simp) _).setCell (by simp) _).setCell (by simp) _).setCell (by simp) _) (Nat.le_add_right _ 4)
  · exact ((((((((((F).setCell (by first | (simp; done) | (simp; omega)) _).setCell (by first | (simp; done) | (simp; omega)) _).setCell (by first | (simp; done) | (simp; omega)) _).setCell (by first | (simp; done) | (simp; omega)) _).setCell (by first | (simp; done) | (simp; omega)) _).setCell (by first | (simp; done) | (simp; omega)) _).setCell (by first | (simp; done) | (simp; omega)) _).setCell (by first | (simp; done) | (simp; omega)) _).setCell (by first | (simp; done) | (simp; omega)) _)

set_option maxHeartbeats 2000000 in
set_option maxRecDepth 100000 in
theorem codes_ebcdic (k n c : Int) (h1 : c ≠ 1) (h2 : c ≠ 2) (w : World) : Calls Try.prog 25 #[.agg #[.int .i64 k, .int .i64 n, .int .i64 c]] w (codesPost c w) := by
  have e1 : (c == 1) = false := beq_eq_false_iff_ne.mpr h1
  have e2 : (c == 2) = false := beq_eq_false_iff_ne.mpr h2
  have N1 : (c = 1) = False := eq_false h1
  have N2 : (c = 2) = False := eq_false h2
  clear h1 h2
  go_enter Try.func25, Try.ntmps25
  go_wp2_with fail
  go_region_with (first
    | (refine (plain_any signsB ebcB _).mono ?_; rintro e w1 ⟨_, rfl, hk, hb⟩; have HC1 := Lib.hid hk; obtain ⟨a1, b1, rfl, x1, y1, la1, lb1⟩ := hk; have HB1 := Lib.hid hb; clear hb x1 y1 la1 lb1)
    | (refine (plain_any tenB eb10 _).mono ?_; rintro e w2 ⟨_, rfl, hk, hb⟩; have HC2 := Lib.hid hk; obtain ⟨a2, b2, rfl, x2, y2, la2, lb2⟩ := hk; have HB2 := Lib.hid hb; clear hb x2 y2 la2 lb2)
    | (refine (packed_any lowB _).mono ?_; rintro e w3 ⟨_, rfl, hk, hb⟩; have HC3 := Lib.hid hk; obtain ⟨a3, rfl, x3, la3⟩ := hk; have HB3 := Lib.hid hb; have hbw := (HB1.out.trans (HB2.out.mono HB1.out.size)).trans (HB3.out.mono (Nat.le_trans HB1.out.size HB2.out.size)); obtain ⟨hc, hf⟩ := bcell hbw; have hz : w.heap.size + 4 ≤ w3.heap.size := (by have := hbw.size; simp at this; omega); have HBW := Lib.hid hbw; clear hbw hb x3 la3))
  go_wp2_with fail
  have e0 : (w.heap.size + 4 : Nat) ≤ ((((w.alloc (.cells #[.int .i64 k, .int .i64 n, .int .i64 c] 24)).alloc (.cells #[.nilFunc, .nilFunc, .nilFunc] 49)).alloc (.cells #[.nilFunc, .nilFunc, .nilFunc] 49)).alloc (.cells #[.nilFunc, .nilFunc, .nilFunc] 49)).heap.size := by simp
  have C1 := ((HC1.out.below HB2.out).below HB3.out).lower e0
  have C2 := ((HC2.out.below HB3.out).lower HB1.out.size).lower e0
  have C3 := (HC3.out.lower (Nat.le_trans HB1.out.size HB2.out.size)).lower e0
  have F := Below.trans ((((((Below.refl w.heap.size w).alloc (Nat.le_refl _) _).alloc (by simp) _).alloc (by first | (simp; done) | (simp; omega)) _).alloc (by first | (simp; done) | (simp; omega)) _).drew) (HBW.out.mono (by simp; omega))
  refine bodyPost_ret (v := .tuple #[.agg #[.func (.func 58) #[] #[.pointer (some ⟨a1, 0, none⟩), .pointer (some ⟨b1, 0, none⟩)], .func (.func 60) #[] #[], .func (.func 61) #[] #[.pointer (some ⟨b1, 0, none⟩), .pointer (some ⟨a1, 0, none⟩)]], .agg #[.func (.func 58) #[] #[.pointer (some ⟨a2, 0, none⟩), .pointer (some ⟨b2, 0, none⟩)], .func (.func 60) #[] #[], .func (.func 61) #[] #[.pointer (some ⟨b2, 0, none⟩), .pointer (some ⟨a2, 0, none⟩)]], .agg #[.func (.func 62) #[] #[], .func (.func 63) #[] #[], .func (.func 64) #[] #[.pointer (some ⟨a3, 0, none⟩)]]])
    (by simp [results, Try.results25, go_sem, hc]) rfl ⟨_, _, _, rfl, ?_, ?_, ?_, ?_⟩
  · rw [show lettersC c = .plain signsB ebcB by simp [lettersC, N1, N2]]
    exact (CodeAt.lower ((((((((((C1).setCell (by simp) _).setCell (by simp) _).setCell (by simp) _).setCell (by simp) _).setCell (by simp) _).setCell (by simp) _).setCell (by simp) _).setCell (by simp) _).setCell (by simp) _) (Nat.le_add_right _ 4))
  · rw [show digitsC c = .plain tenB eb10 by simp [digitsC, N1, N2]]
    exact (CodeAt.lower ((((((((((C2).setCell (by simp) _).setCell (by simp) _).setCell (by simp) _).setCell (by simp) _).setCell (by simp) _).setCell (by simp) _).setCell (by simp) _).setCell (by simp) _).setCell (by simp) _) (Nat.le_add_right _ 4))
  · rw [show rawC c = .packed lowB by simp [rawC, N1]]
    exact (CodeAt.lower ((((((((((C3).setCell (by simp) _).setCell (by simp) _).setCell (by simp) _).setCell (by simp) _).setCell (by simp) _).setCell (by simp) _).setCell (by simp) _).setCell (by simp) _).setCell (by simp) _) (Nat.le_add_right _ 4))
  · exact ((((((((((F).setCell (by first | (simp; done) | (simp; omega)) _).setCell (by first | (simp; done) | (simp; omega)) _).setCell (by first | (simp; done) | (simp; omega)) _).setCell (by first | (simp; done) | (simp; omega)) _).setCell (by first | (simp; done) | (simp; omega)) _).setCell (by first | (simp; done) | (simp; omega)) _).setCell (by first | (simp; done) | (simp; omega)) _).setCell (by first | (simp; done) | (simp; omega)) _).setCell (by first | (simp; done) | (simp; omega)) _)
theorem codes_any (k n c : Int) (w : World) : Calls Try.prog 25 #[.agg #[.int .i64 k, .int .i64 n, .int .i64 c]] w (codesPost c w) := by
  by_cases h1 : c = 1
  · subst h1; exact codes_ascii k n w
  · by_cases h2 : c = 2
    · subst h2; exact codes_bcd k n w
    · exact codes_ebcdic k n c h1 h2 w

/-- What a code puts. -/
def CK.put : CK → List UInt8 → List UInt8
  | .plain f t, l => (turnL f.data.toList t.data.toList l).getD []
  | .packed _, l => packL l
end Go.Proofs.Ytcgfbdleapjigaa.fieldw
