/- Walks of layer 3: Flush. Conditions: as each theorem says. -/
import Derived.Test.YtpnijopbbbgffaaPlantU
import Derived.StillTailTactics
namespace Go.Proofs.Ytpnijopbbbgffaa.plantw
open Go.RowKit
open Go.Proofs.Ytpnijopbbbgffaa.plantp
open Go.Proofs.Ytpnijopbbbgffaa.mapfn
open Go.Proofs.Ytpnijopbbbgffaa.buf
/-- What the closure of Flush leaves of a disk's map. -/
def ClosAt (d : Nat) (x : Wt) (m s : Nat) (f : Lit → Option Sec) (w : World) (e : Ending) (w' : World) : Prop :=
  e = .returned (.bool (x.dev == d)) ∧ Turn [m] w w' ∧ ∃ s', MapFn secE Try.prog 3 w' m s' (if x.dev = d then upd f (.int .i64 x.place) (some x.b) else f) ∧ s' ≤ s + (if x.dev = d then 1 else 0)
set_option maxHeartbeats 2000000 in
set_option maxRecDepth 100000 in
theorem clos_any {w : World} {bd bp g dk n cd d m s : Nat} {f : Lit → Option Sec} (hbd : w.cell? ⟨bd, 0, none⟩ = some (.int .i64 d)) (hbp : w.cell? ⟨bp, 0, none⟩ = some (.pointer (some ⟨g, 0, none⟩)))
    (hg : w.cell? ⟨g, 0, none⟩ = some (.slice (some ⟨dk, 0, none⟩) n cd)) (hd : d < n) (hm : w.cell? ⟨dk, d * 2 + 1, none⟩ = some (.map (some m))) (hM : MapFn secE Try.prog 3 w m s f) (hs : s < 1099511627776)
    (x : Wt) (hx : x.b.length = 64) (hp : x.place ≤ 65536) (hbdm : bd ≠ m) :
    Calls Try.prog 35 #[.agg (wtA x), .pointer (some ⟨bd, 0, none⟩), .pointer (some ⟨bp, 0, none⟩)] w (ClosAt d x m s f w) := by
  have hbdlt : bd < w.heap.size + 1 := by have := World.block_lt_of_cell? w _ hbd; simp at this; omega
  have hW : (w.alloc (.cells (wtA x) 72)).heap[w.heap.size]? = some (.cells (wtA x) 72 (0, 0)) := heap_alloc_last _ _
  obtain ⟨q0, q1, q2⟩ := wt_cells (w := w.alloc (.cells (wtA x) 72)) (g := w.heap.size) hW hx
  obtain ⟨q0', q1', q2'⟩ := wt_cells (w := (w.alloc (.cells (wtA x) 72)).drew) (g := w.heap.size) hW hx
  have up : ∀ {a : Addr} {v : Value}, w.cell? a = some v → (w.alloc (.cells (wtA x) 72)).cell? a = some v := fun {a v} h => (World.cell?_of_block (Below.heap_alloc w _ _ (World.block_lt_of_cell? w _ h))).trans h
  have f1 := up hbd
  have f2 := up hbp
  have f3 := up hg
  have f4 := up hm
  have e1 : (w.alloc (.cells (wtA x) 72)).drew.cell? ⟨bd, 0, none⟩ = some (.int .i64 d) := f1
  have e2 : (w.alloc (.cells (wtA x) 72)).drew.cell? ⟨bp, 0, none⟩ = some (.pointer (some ⟨g, 0, none⟩)) := f2
  have e3 : (w.alloc (.cells (wtA x) 72)).drew.cell? ⟨g, 0, none⟩ = some (.slice (some ⟨dk, 0, none⟩) n cd) := f3
  have e4 : (w.alloc (.cells (wtA x) 72)).drew.cell? ⟨dk, d * 2 + 1, none⟩ = some (.map (some m)) := f4
  clear up f2 f3 f4 hbd hbp hg hm
  have sz := wtA_size x hx
  have hM2 : Hid (MapFn secE Try.prog 3 (w.alloc (.cells (wtA x) 72)).drew m s f) := hM.block (Below.heap_alloc _ _ _ hM.lt)
  have hMlt := hM.lt
  have HX := Lib.hid hx
  have HM := Lib.hid hM
  clear hW hx hM
  have hd0 : 0 ≤ (d : Int) := by omega
  have hd1 : (d : Int) < (n : Int) := by omega
  by_cases he : x.dev = d
  · have hb : ((x.dev : Int) == (d : Int)) = true := by simp [he]
    have HE := Lib.hid he
    clear he
    go_enter Try.func35, Try.ntmps35
    go_wp2_with fail
    refine wp_region_tail 12 (by kernel_rfl) (by kernel_rfl) ?_
    simp only [List.take_succ_cons, List.take_zero, List.drop_succ_cons, List.drop_zero]
    iterate 11 still_step
    refine still_run rfl _ (exec_load 70 (.tmp 19) rfl ⟨w.heap.size, 2, none⟩ rfl _ q2') ?_
    refine wpStill_nil ?_
    obtain ⟨w3, hr, hM3, htn⟩ := hM2.out.store keyed_int Try.underlying65 (by simp only [maxLen]; omega) (by trivial) (key_int x.place hp) x.b
    refine wpList_nov rfl (exec_mapUpdate 65 (.tmp 16) (.tmp 18) (.tmp 20) rfl _ _ _ rfl rfl rfl hr) ?_
    have HT := Lib.hid htn.grown
    have T3 : ∀ k, k < w.heap.size + 1 → k ≠ m → w3.heap[k]? = (w.alloc (.cells (wtA x) 72)).heap[k]? := fun k hk hne => HT.out.block k (by simpa using hk) (fun e => hne (by simpa using e))
    have g1 : w3.cell? ⟨w.heap.size, 0, none⟩ = some (.int .i64 x.dev) := (World.cell?_of_block (a := ⟨w.heap.size, 0, none⟩) (T3 w.heap.size (by omega) (by omega))).trans q0
    have g2 : w3.cell? ⟨bd, 0, none⟩ = some (.int .i64 d) := (World.cell?_of_block (a := ⟨bd, 0, none⟩) (T3 bd hbdlt hbdm)).trans f1
    have HM3 := Lib.hid hM3
    clear q0 q1 q2 q0' q1' q2' f1 e1 e2 e3 e4 hr T3 htn hM3
    go_wp2_with fail
    go_ret
    refine ⟨by simp [HE.out], (((Turn.refl [m] w).alloc _).drew).grown HT.out fun k hk => .inl (by simp at hk; simp [hk]), (if (f (.int .i64 x.place)).isSome then s else s + 1), ?_, ?_⟩
    · rw [if_pos HE.out]
      exact HM3.out
    · rw [if_pos HE.out]
      split <;> omega
  · have hb : ((x.dev : Int) == (d : Int)) = false := by simp; omega
    have HE := Lib.hid he
    clear he q0' q1' q2 q2' e1 e2 e3 e4
    go_enter Try.func35, Try.ntmps35
    go_wp2_with fail
    go_ret
    refine ⟨by simp [HE.out], (Turn.refl [m] w).alloc _, s, ?_, by omega⟩
    rw [if_neg HE.out]
    exact HM.out.block (Below.heap_alloc _ _ _ hMlt)
/-- What the closure finds. -/
structure Env (w : World) (bd bp g dk n cd d m : Nat) : Prop where
  hbd : w.cell? ⟨bd, 0, none⟩ = some (.int .i64 d)
  hbp : w.cell? ⟨bp, 0, none⟩ = some (.pointer (some ⟨g, 0, none⟩))
  hg : w.cell? ⟨g, 0, none⟩ = some (.slice (some ⟨dk, 0, none⟩) n cd)
  hd : d < n
  hm : w.cell? ⟨dk, d * 2 + 1, none⟩ = some (.map (some m))
  ne : bd ≠ m ∧ bp ≠ m ∧ g ≠ m ∧ dk ≠ m
theorem Env.turn {w w' : World} {bd bp g dk n cd d m : Nat} (h : Env w bd bp g dk n cd d m) {O : List Nat} (ht : Turn O w w') (hO : ∀ k ∈ O, k ≠ bd ∧ k ≠ bp ∧ k ≠ g ∧ k ≠ dk) : Env w' bd bp g dk n cd d m := by
  have up : ∀ {a : Addr} {v : Value}, w.cell? a = some v → a.block ∉ O → w'.cell? a = some v := fun {a v} hc hn => (World.cell?_of_block (ht.block _ (World.block_lt_of_cell? w _ hc) hn)).trans hc
  exact ⟨up h.hbd (fun hm => (hO _ hm).1 rfl), up h.hbp (fun hm => (hO _ hm).2.1 rfl), up h.hg (fun hm => (hO _ hm).2.2.1 rfl), h.hd, up h.hm (fun hm => (hO _ hm).2.2.2 rfl), h.ne⟩
theorem Env.turn1 {w w' : World} {bd bp g dk n cd d m : Nat} (h : Env w bd bp g dk n cd d m) (ht : Turn [m] w w') : Env w' bd bp g dk n cd d m :=
  h.turn ht fun k hk => by simp at hk; subst hk; exact ⟨h.ne.1.symm, h.ne.2.1.symm, h.ne.2.2.1.symm, h.ne.2.2.2.symm⟩
/-- What a row of writes leaves of a disk's map. -/
noncomputable def fl (d : Nat) : List Wt → (Lit → Option Sec) → Lit → Option Sec
  | [], f => f
  | x :: l, f => fl d l (if x.dev = d then upd f (.int .i64 x.place) (some x.b) else f)
theorem fl_append (d : Nat) : ∀ (l k : List Wt) (f : Lit → Option Sec), fl d (l ++ k) f = fl d k (fl d l f)
  | [], _, _ => rfl
  | x :: l, k, f => by simp only [List.cons_append, fl]; exact fl_append d l k _
theorem fl_snoc (d : Nat) (l : List Wt) (x : Wt) (f : Lit → Option Sec) : fl d (l ++ [x]) f = (if x.dev = d then upd (fl d l f) (.int .i64 x.place) (some x.b) else fl d l f) := by
  rw [fl_append]
  rfl
/-- How the first write to a disk is found, and stored. -/
def IndexAt (d m s : Nat) (l : List Wt) (f : Lit → Option Sec) (w : World) (e : Ending) (w' : World) : Prop :=
  ∃ r s' : Nat, (∀ j (h : j < l.length), j < r → l[j].dev ≠ d) ∧ ((r = l.length ∧ s' ≤ s ∧ e = .returned (.int .i64 (-1))) ∨ (∃ h : r < l.length, l[r].dev = d ∧ s' ≤ s + 1 ∧ e = .returned (.int .i64 r))) ∧
    Turn [m] w w' ∧ MapFn secE Try.prog 3 w' m s' (fl d (l.take (r + 1)) f)
set_option maxHeartbeats 2000000 in
set_option maxRecDepth 100000 in
theorem index_any {w : World} {bd bp g dk n cd d m s : Nat} {f : Lit → Option Sec} (hE : Env w bd bp g dk n cd d m) (hM : MapFn secE Try.prog 3 w m s f)
    {v : Value} {l : List Wt} (hbuf : Buf w 72 66 v l.length (l.flatMap wtL)) (hvm : bufBlock v ≠ some m) (hl : ∀ x ∈ l, x.b.length = 64 ∧ x.place ≤ 65536) (hs : s + l.length < 1099511627776) :
    Calls Try.prog 43 #[v, .func (.func 35) #[] #[.pointer (some ⟨bd, 0, none⟩), .pointer (some ⟨bp, 0, none⟩)]] w (IndexAt d m s l f w) := by
  obtain ⟨pw, cw, rfl, hn, hcw⟩ := hbuf.shape
  unfold maxLen at hcw
  have HR := Lib.hid hbuf
  clear hbuf
  go_enter Try.func43, Try.ntmps43
  go_wp2_with fail
  go_loopw [8] (fun k wr => ∃ j s' : Nat, j ≤ l.length ∧ k = .int .i64 j ∧ (∀ i (h : i < l.length), i < j → l[i].dev ≠ d) ∧ Turn [m] w wr ∧ MapFn secE Try.prog 3 wr m s' (fl d (l.take j) f) ∧ s' ≤ s) (fun k _ => l.length - (intOf k).toNat)
  case atStart => exact ⟨0, s, by omega, rfl, by omega, Turn.refl _ _, by simpa [fl] using hM, by omega⟩
  case round =>
    obtain ⟨j, s', hj, rfl, hno, ht, hM', hs'⟩ := hrel
    have HNO := Lib.hid hno
    have HMM := Lib.hid hM'
    clear hno hM'
    by_cases hlt2 : j < l.length
    · obtain ⟨wk, cap, hv, hbk, hn', hcw', hld⟩ := Buf.load (HR.out.kept (w' := wr) fun k hk => ht.block k (HR.out.lt k hk) (by simp; intro e; exact hvm (by rw [hk, e]))) (fun x hx => (hl x hx).1) j hlt2
      obtain ⟨rfl, rfl⟩ : pw = some ⟨wk, 0, none⟩ ∧ cw = cap := by simpa using hv
      clear hbk hn' hcw' hv
      have hE' := hE.turn1 ht
      have HC := Lib.hid (clos_any hE'.hbd hE'.hbp hE'.hg hE'.hd hE'.hm HMM.out (by omega) l[j] (hl _ (by simp)).1 (hl _ (by simp)).2 hE'.ne.1)
      have HT := Lib.hid (List.take_succ_eq_append_getElem hlt2)
      clear hE'
      by_cases he : l[j].dev = d
      · have hb : (l[j].dev == d) = true := by simp [he]
        unfold ClosAt at HC
        rw [hb, if_pos he] at HC
        have HE := Lib.hid he
        clear he hb
        go_wp2_with (first | (with_reducible refine wpList_load_at rfl 72 (.tmp 14) rfl _ rfl _ hld ?_))
        refine HC.out.mono ?_
        rintro e w3 ⟨rfl, ht3, s3, hM3, hs3⟩
        have HM3 := Lib.hid hM3
        clear hM3
        go_wp2_with fail
        go_ret
        refine ⟨j, s3, fun i h1 h2 => HNO.out i h1 h2, .inr ⟨hlt2, HE.out, by rw [if_pos HE.out] at hs3; omega, rfl⟩, ht.trans ht3, ?_⟩
        rw [HT.out, fl_snoc, if_pos HE.out]
        exact HM3.out
      · have hb : (l[j].dev == d) = false := by simp [he]
        unfold ClosAt at HC
        rw [hb, if_neg he] at HC
        have HE := Lib.hid he
        clear he hb
        go_wp2_with (first | (with_reducible refine wpList_load_at rfl 72 (.tmp 14) rfl _ rfl _ hld ?_))
        refine HC.out.mono ?_
        rintro e w3 ⟨rfl, ht3, s3, hM3, hs3⟩
        have HM3 := Lib.hid hM3
        clear hM3
        go_wp2_with fail
        go_roundw
        case rel =>
          refine ⟨j + 1, s3, by omega, by go_num, fun i h1 h2 => ?_, ht.trans ht3, ?_, by rw [if_neg HE.out] at hs3; omega⟩
          · by_cases hij : i = j
            · subst hij
              exact HE.out
            · exact HNO.out i h1 (by omega)
          · rw [HT.out, fl_snoc, if_neg HE.out]
            exact HM3.out
        case measure => simp [intOf]; omega
    · obtain rfl : j = l.length := by omega
      go_wp2_with fail
      go_ret
      refine ⟨l.length, s', fun i h1 h2 => HNO.out i h1 h2, .inl ⟨rfl, by omega, rfl⟩, ht, ?_⟩
      have := HMM.out
      rw [List.take_length] at this
      rw [List.take_of_length_le (by omega)]
      exact this
end Go.Proofs.Ytpnijopbbbgffaa.plantw
