/- The walk of the law FieldCodes: it answers true. Conditions: as the theorem says. -/
import Derived.Test.YtcgfbdleapjigaaFieldN
import Derived.Test.YtcgfbdleapjigaaFieldLaw2
namespace Go.Proofs.Ytcgfbdleapjigaa.fieldw
open Go.RowKit Go.Proofs.Ytcgfbdleapjigaa.fieldp Go.Proofs.YtcgfbdleapjigaaW.PrintWords Go.Proofs.YtcgfbdleapjigaaW.PrintLast Go.Proofs.Ytcgfbdleapjigaa.fieldl

theorem check_code (k n : Int) (l : List UInt8) {c : Int} (h : 1 ≤ c ∧ c ≤ 3) : checkR k n c l = checkR k n 1 l := by
  have : mayB k n c = mayB k n 1 := by
    unfold mayB
    rw [Bool.eq_iff_iff, decide_eq_true_iff, decide_eq_true_iff]
    omega
  unfold checkR
  rw [this]
def oks (r : Bool) (k : Nat) : Array Value := #[.bool (if 0 < k then r else false), .bool (if 1 < k then r else false), .bool (if 2 < k then r else false)]
theorem oks_cell {w : World} {b : Nat} {r : Bool} {k : Nat} {T : TypeId} (h : w.heap[b]? = some (.cells (oks r k) T (0, 0))) (j : Nat) (hj : j < 3) : w.cell? ⟨b, j, none⟩ = some (.bool (if j < k then r else false)) := by
  rw [blk_cell h j]
  match j, hj with
  | 0, _ => rfl
  | 1, _ => rfl
  | 2, _ => rfl
theorem oks_set (r : Bool) (k : Nat) (hk : k < 3) : (oks r k).setIfInBounds k (.bool r) = oks r (k + 1) := by
  match k, hk with
  | 0, _ => rfl
  | 1, _ => rfl
  | 2, _ => rfl

theorem C_set {w2 : World} {base b j : Nat} {A : Option Addr} {c : Nat} {l : List Int} (h : Kd.R (Kd.int .u8) 5 w2 base (fun _ => True) (.slice A l.length c) l) (hb : b < base) (u : Value) : Kd.C (Kd.int .u8) (w2.setCell ⟨b, j, none⟩ u) A l.length l := by
  refine Kd.R_F (Kd.R_tight rfl h) _ (fun k hk _ => Below.heap_setCell _ _ _ _ ?_)
  have := Kd.R_base h k hk.symm
  show k ≠ b
  omega
set_option maxHeartbeats 4000000 in
set_option maxRecDepth 100000 in
theorem codes_law (k n : Int) (s : ByteArray) (hs : s.size ≤ 100000000) (w : World) :
    Calls Try.prog 10 #[.int .i64 k, .int .i64 n, .string s] w fun e w' => e = .returned (.bool true) ∧ Below w.heap.size w w' := by
  have HS := Lib.hid shown_any
  have hP : ∀ (c : Int), 1 ≤ c ∧ c ≤ 3 → ∀ w, Calls Try.prog 13 #[.slice none 0 0, .agg #[.int .i64 k, .int .i64 n, .int .i64 c], .string s] w fun e w' => ∃ v0_ : Value, e = .returned (.tuple #[v0_, .int .i64 (checkR k n 1 s.data.toList)]) ∧ Kd.R (Kd.int .u8) 5 w' w.heap.size (fun _ => True) v0_ (putR [] k n c s).1 ∧ Below w.heap.size w w' := by
    intro c hc w
    have := put_any k n c s none 0 [] w hs (by decide) (Kd.C_nil _ _) (Nat.le_refl _)
    have e : (putR [] k n c s).2 = checkR k n 1 s.data.toList := by
      rw [← check_code k n s.data.toList hc]
      unfold putR
      split
      · rename_i h; exact h.symm
      · rfl
    rw [e] at this
    exact this
  have HP := Lib.hid hP
  clear hP
  by_cases hck : checkR k n 1 s.data.toList = 0
  · have hT : ∀ (c : Int), 1 ≤ c ∧ c ≤ 3 → ∀ A cap w, Kd.C (Kd.int .u8) w A (putR [] k n c s).1.length (putR [] k n c s).1 → Calls Try.prog 17 #[.slice A (putR [] k n c s).1.length cap, .agg #[.int .i64 k, .int .i64 n, .int .i64 c]] w fun e w' => ∃ A1 c1, e = .returned (.tuple #[.string s, .slice A1 0 c1, .int .i64 0]) ∧ Below w.heap.size w w' := by
      intro c hc A cap w hC
      have h0 : checkR k n c s.data.toList = 0 := (check_code k n _ hc).trans hck
      have ht := takeR_back h0 (putR [] k n c s).1 [] (by rw [putR_of [] h0, List.nil_append, str_nums, List.append_nil])
      refine (take_any k n c A cap _ w hC).mono ?_
      rintro e w' ⟨v, he, hV, hb⟩
      rw [ht] at he hV
      obtain ⟨A1, c1, hv⟩ := Kd.V_slice hV
      exact ⟨A1, c1, by rw [he, hv]; rfl, hb⟩
    have HT := Lib.hid hT
    rw [hck] at HP
    clear hT hck
    go_enter Try.func10, Try.ntmps10
    go_wp2_with fail
    refine (HS.out _).mono ?_
    rintro e w1 ⟨rfl, hb1⟩
    have HB1 := Aside0.mk hb1
    have hz1 := hb1.size
    clear hb1
    go_wp2_with fail
    go_loopw [9] (fun i wr => ∃ j : Nat, j ≤ 3 ∧ i = .int .i64 j ∧ wr.heap[w1.heap.size]? = some (.cells (oks true j) 42 (0, 0)) ∧ Below w.heap.size w wr) (fun i _ => 3 - (intOf i).toNat)
    case atStart => exact ⟨0, by omega, rfl, by show (w1.heap.push _)[w1.heap.size]? = _; simp [oks], HB1.out.alloc hz1 _⟩
    case round =>
      obtain ⟨j, hj, rfl, hblk, hB⟩ := hrel
      have HBK := Aside0.mk hblk
      have HB := Aside0.mk hB
      have hgl := blk_lt hblk
      by_cases hlt : j < 3
      · have hj1 : (0 : Int) ≤ (j : Int) := by omega
        have hj2 : (j : Int) < 3 := by omega
        have hw : IntKind.i64.wrap ((j : Int) + 1) = (j : Int) + 1 := IntWalk.i64_in _ (by omega)
        clear hblk hB
        go_wp2_with fail
        refine (HP.out _ ⟨by omega, by omega⟩ _).mono ?_
        rintro e w2 ⟨v, rfl, ho, hb2⟩
        obtain ⟨A, cap, rfl⟩ := Kd.R_slice ho
        have hC := fun u => C_set (b := w1.heap.size) (j := j) ho (by simp; omega) u
        have HC := Aside0.mk hC
        have hblk2 := blk_below (blk_alloc HBK.out (.cells #[.int .i64 k, .int .i64 n, .int .i64 ((j : Int) + 1)] 24)) hb2
        have HBK2 := Aside0.mk hblk2
        have hc := oks_cell hblk2 j hlt
        have hf : w2.frozen? ⟨w1.heap.size, j, none⟩ = false := blk_frozen hblk2 j
        have hfm := blk_below (blk_new wr (.cells #[.int .i64 k, .int .i64 n, .int .i64 ((j : Int) + 1)] 24)) hb2
        have HB2 := Aside0.mk (HB.out.trans ((((Below.refl _ _).alloc (Nat.le_refl _) _).trans (hb2.mono (by simp))).mono HB.out.size))
        have hne : wr.heap.size ≠ w1.heap.size := by omega
        have f0 : ∀ u, (w2.setCell ⟨w1.heap.size, j, none⟩ u).cell? ⟨wr.heap.size, 0, none⟩ = some (.int .i64 k) := fun u => (blk_cell (blk_far hfm (p := ⟨w1.heap.size, j, none⟩) hne u) 0)
        have f1 : ∀ u, (w2.setCell ⟨w1.heap.size, j, none⟩ u).cell? ⟨wr.heap.size, 1, none⟩ = some (.int .i64 n) := fun u => (blk_cell (blk_far hfm (p := ⟨w1.heap.size, j, none⟩) hne u) 1)
        have f2 : ∀ u, (w2.setCell ⟨w1.heap.size, j, none⟩ u).cell? ⟨wr.heap.size, 2, none⟩ = some (.int .i64 ((j : Int) + 1)) := fun u => (blk_cell (blk_far hfm (p := ⟨w1.heap.size, j, none⟩) hne u) 2)
        clear hblk2 hb2 ho hC hfm
        go_wp2_with fail
        refine (HT.out _ ⟨by omega, by omega⟩ _ _ _ (HC.out _)).mono ?_
        rintro e w3 ⟨A1, c1, rfl, hb3⟩
        have HB3 := Aside0.mk ((HB2.out.setCell hz1 _).trans (hb3.mono (by simp [World.setCell]; exact HB2.out.size)))
        have HBK3 := Aside0.mk (blk_below (blk_set HBK2.out j (.bool true)) hb3)
        clear hb3
        go_wp2_with fail
        exact ⟨⟨j + 1, by omega, by go_num, by rw [← oks_set true j hlt]; exact HBK3.out, HB3.out⟩, by simp [intOf]; omega⟩
      · obtain rfl : j = 3 := by omega
        have c0 : wr.cell? ⟨w1.heap.size, 0, none⟩ = some (.bool true) := oks_cell hblk 0 (by decide)
        have c1 : wr.cell? ⟨w1.heap.size, 1, none⟩ = some (.bool true) := oks_cell hblk 1 (by decide)
        have c2 : wr.cell? ⟨w1.heap.size, 2, none⟩ = some (.bool true) := oks_cell hblk 2 (by decide)
        clear hblk hB HBK
        go_wp2_with fail
        go_ret
        exact ⟨rfl, HB.out⟩
  · have h1 : (checkR k n 1 s.data.toList == 0) = false := by simpa using hck
    have h2 : (checkR k n 1 s.data.toList != 0) = true := by simpa using hck
    generalize checkR k n 1 s.data.toList = r at HP h1 h2
    clear hck
    go_enter Try.func10, Try.ntmps10
    go_wp2_with fail
    refine (HS.out _).mono ?_
    rintro e w1 ⟨rfl, hb1⟩
    have HB1 := Aside0.mk hb1
    have hz1 := hb1.size
    clear hb1
    go_wp2_with fail
    go_loopw [9] (fun i wr => ∃ j : Nat, j ≤ 3 ∧ i = .int .i64 j ∧ wr.heap[w1.heap.size]? = some (.cells (oks false j) 42 (0, 0)) ∧ Below w.heap.size w wr) (fun i _ => 3 - (intOf i).toNat)
    case atStart => exact ⟨0, by omega, rfl, by show (w1.heap.push _)[w1.heap.size]? = _; simp [oks], HB1.out.alloc hz1 _⟩
    case round =>
      obtain ⟨j, hj, rfl, hblk, hB⟩ := hrel
      have HBK := Aside0.mk hblk
      have HB := Aside0.mk hB
      have hgl := blk_lt hblk
      by_cases hlt : j < 3
      · have hj1 : (0 : Int) ≤ (j : Int) := by omega
        have hj2 : (j : Int) < 3 := by omega
        have hw : IntKind.i64.wrap ((j : Int) + 1) = (j : Int) + 1 := IntWalk.i64_in _ (by omega)
        clear hblk hB
        go_wp2_with fail
        refine (HP.out _ ⟨by omega, by omega⟩ _).mono ?_
        rintro e w2 ⟨v, rfl, ho, hb2⟩
        have hblk2 := blk_below (blk_alloc HBK.out (.cells #[.int .i64 k, .int .i64 n, .int .i64 ((j : Int) + 1)] 24)) hb2
        have HBK2 := Aside0.mk hblk2
        have hc := oks_cell hblk2 j hlt
        have hf : w2.frozen? ⟨w1.heap.size, j, none⟩ = false := blk_frozen hblk2 j
        have HB2 := Aside0.mk (HB.out.trans ((((Below.refl _ _).alloc (Nat.le_refl _) _).trans (hb2.mono (by simp))).mono HB.out.size))
        clear hblk2 hb2 ho
        go_wp2_with fail
        exact ⟨⟨j + 1, by omega, by go_num, by rw [← oks_set false j hlt]; exact blk_set HBK2.out j _, HB2.out.setCell hz1 _⟩, by simp [intOf]; omega⟩
      · obtain rfl : j = 3 := by omega
        have c0 : wr.cell? ⟨w1.heap.size, 0, none⟩ = some (.bool false) := oks_cell hblk 0 (by decide)
        have c1 : wr.cell? ⟨w1.heap.size, 1, none⟩ = some (.bool false) := oks_cell hblk 1 (by decide)
        have c2 : wr.cell? ⟨w1.heap.size, 2, none⟩ = some (.bool false) := oks_cell hblk 2 (by decide)
        clear hblk hB HBK
        go_wp2_with fail
        go_ret
        exact ⟨rfl, HB.out⟩
end Go.Proofs.Ytcgfbdleapjigaa.fieldw
