/- Walks of layer 3: Flush. Conditions: as each theorem says. -/
import Derived.Test.YtpnijopbbbgffaaPlantX
import Derived.Deep.RegionHeld3
import Derived.Deep.QuietTactic
import Derived.BigQuiet
namespace Go.Proofs.Ytpnijopbbbgffaa.plantw
open Go.RowKit
open Go.Proofs.Ytpnijopbbbgffaa.plantp
open Go.Proofs.Ytpnijopbbbgffaa.mapfn
open Go.Proofs.Ytpnijopbbbgffaa.buf
/-- What a Flush that is done leaves. -/
def FlushIn (d g m s : Nat) (l : List Wt) (f : Lit → Option Sec) (v0 v1 : Value) (fuse steps : Int) (w w' : World) : Prop :=
  ∃ (s' : Nat) (v1' : Value), Blk w' g v0 v1' false (if 0 < fuse then fuse - 1 else fuse) (steps + 1) ∧ Buf w' 72 66 v1' (keepL d l).length ((keepL d l).flatMap wtL) ∧ bufBlock v1' = bufBlock v1 ∧
    Turn (g :: m :: (bufBlock v1).toList) w w' ∧ MapFn secE Try.prog 3 w' m s' (fl d l f) ∧ s' + (keepL d l).length ≤ s + l.length
theorem step_on {w : World} {g : Nat} {v0 v1 : Value} {off : Bool} {fuse steps : Int} (h : Blk w g v0 v1 off fuse steps) (hf0 : ¬ fuse = 0) (hf : -1 ≤ fuse ∧ fuse ≤ 9223372036854775807) (hs : 0 ≤ steps ∧ steps < 9223372036854775807) :
    Calls Try.prog 33 #[.pointer (some ⟨g, 0, none⟩)] w fun e w' => e = .returned (.bool true) ∧ Touch g w w' ∧ Hid (Blk w' g v0 v1 off (if 0 < fuse then fuse - 1 else fuse) (steps + 1)) :=
  (step_any h hf hs).mono fun e w' ⟨h1, h2, h3⟩ => ⟨by rw [h1]; simp [hf0], h2, by rw [if_neg hf0] at h3; exact Lib.hid h3⟩
set_option maxHeartbeats 2000000 in
set_option maxRecDepth 100000 in
theorem flush_in {w : World} {g dk cd : Nat} {v1 : Value} {fuse steps : Int} {most : List Nat} (h : Blk w g (.slice (some ⟨dk, 0, none⟩) most.length cd) v1 false fuse steps) (d m s : Nat) (f : Lit → Option Sec) (hd : d < most.length)
    (hm : w.cell? ⟨dk, d * 2 + 1, none⟩ = some (.map (some m))) (hM : MapFn secE Try.prog 3 w m s f) (hne : dk ≠ m ∧ g ≠ m ∧ g ≠ dk) (hv : bufBlock v1 ≠ some g ∧ bufBlock v1 ≠ some m ∧ bufBlock v1 ≠ some dk)
    (hf : -1 ≤ fuse ∧ fuse ≤ 9223372036854775807) (hs : 0 ≤ steps ∧ steps < 9223372036854775807) (hf0 : ¬ fuse = 0)
    (l : List Wt) (hl : ∀ x ∈ l, x.b.length = 64 ∧ x.place ≤ 65536) (hbuf : Buf w 72 66 v1 l.length (l.flatMap wtL)) (hsl : s + l.length < 1099511627776) :
    Calls Try.prog 13 #[.pointer (some ⟨g, 0, none⟩), .int .i64 d] w fun e w' => e = .returned (.int .i64 0) ∧ FlushIn d g m s l f (.slice (some ⟨dk, 0, none⟩) most.length cd) v1 fuse steps w w' := by
  obtain ⟨⟨c0, c1, c2, c3, c4⟩, _⟩ := h.cells
  have hgl := h.lt
  have hB2 : Blk ((w.alloc (.cells #[.pointer (some ⟨g, 0, none⟩)] 24)).alloc (.cells #[.int .i64 d] 3)) g (.slice (some ⟨dk, 0, none⟩) most.length cd) v1 false fuse steps := h.kept ((Below.heap_alloc _ _ _ (by simp; omega)).trans (Below.heap_alloc _ _ _ hgl))
  have HST := Lib.hid (fun nq => step_on (w := ((w.alloc (.cells #[.pointer (some ⟨g, 0, none⟩)] 24)).alloc (.cells #[.int .i64 d] 3)).drewN nq) hB2 hf0 hf hs)
  have HB2 := Lib.hid hB2
  have up2 : ∀ k, k < w.heap.size → ((w.alloc (.cells #[.pointer (some ⟨g, 0, none⟩)] 24)).alloc (.cells #[.int .i64 d] 3)).heap[k]? = w.heap[k]? := fun k hk => (Below.heap_alloc _ _ _ (by simp; omega)).trans (Below.heap_alloc _ _ _ hk)
  have e0 : ((w.alloc (.cells #[.pointer (some ⟨g, 0, none⟩)] 24)).alloc (.cells #[.int .i64 d] 3)).cell? ⟨g, 0, none⟩ = some (.slice (some ⟨dk, 0, none⟩) most.length cd) := (World.cell?_of_block (a := ⟨g, 0, none⟩) (up2 g hgl)).trans c0
  have e2 : ((w.alloc (.cells #[.pointer (some ⟨g, 0, none⟩)] 24)).alloc (.cells #[.int .i64 d] 3)).cell? ⟨g, 2, none⟩ = some (.bool false) := (World.cell?_of_block (a := ⟨g, 2, none⟩) (up2 g hgl)).trans c2
  have hd0 : ¬ (d : Int) < 0 := by omega
  have hd2 : decide ((d : Int) < 0) = false := by simp
  have hd1 : ¬ ((most.length : Int) ≤ (d : Int)) := by omega
  have UP := Lib.hid up2
  clear c0 c1 c2 c3 c4 h up2 hB2
  go_enter Try.func13, Try.ntmps13
  go_wp2_with fail
  go_quiet (fail)
  go_wp2_with fail
  refine (HST.out _).mono ?_
  rintro e w2 ⟨rfl, ht2, hb2⟩
  have z2 : w.heap.size + 2 ≤ w2.heap.size := by have := ht2.size; simpa using this
  have b2 : ∀ k, k < w.heap.size + 2 → k ≠ g → w2.heap[k]? = ((w.alloc (.cells #[.pointer (some ⟨g, 0, none⟩)] 24)).alloc (.cells #[.int .i64 d] 3)).heap[k]? := fun k hk hn => ht2.block k (by simpa using hk) hn
  have x1 : w2.heap[w.heap.size]? = some (.cells #[.pointer (some ⟨g, 0, none⟩)] 24 (0, 0)) := by rw [b2 _ (by omega) (by omega), Below.heap_alloc _ _ _ (by simp)]; exact heap_alloc_last _ _
  have x2 : w2.heap[w.heap.size + 1]? = some (.cells #[.int .i64 d] 3 (0, 0)) := by
    rw [b2 _ (by omega) (by omega)]
    have := heap_alloc_last (w.alloc (.cells #[.pointer (some ⟨g, 0, none⟩)] 24)) (.cells #[.int .i64 d] 3)
    simpa using this
  have old : ∀ k, k < w.heap.size → k ≠ g → w2.heap[k]? = w.heap[k]? := fun k hk hn => (b2 k (by omega) hn).trans (UP.out k hk)
  have bb := hb2.out.cells
  have y0 : w2.cell? ⟨w.heap.size, 0, none⟩ = some (.pointer (some ⟨g, 0, none⟩)) := (cells_at x1 0).trans rfl
  have y1 : w2.cell? ⟨w.heap.size + 1, 0, none⟩ = some (.int .i64 d) := (cells_at x2 0).trans rfl
  have hdkl : dk < w.heap.size := World.block_lt_of_cell? w _ hm
  have y2 : w2.cell? ⟨dk, d * 2 + 1, none⟩ = some (.map (some m)) := (World.cell?_of_block (a := ⟨dk, d * 2 + 1, none⟩) (old dk hdkl (fun e => hne.2.2 e.symm))).trans hm
  have hml := hM.lt
  have hE : Env w2.drew (w.heap.size + 1) w.heap.size g dk most.length cd d m := ⟨y1, y0, bb.1.1, hd, y2, by omega, by omega, hne.2.1, hne.1⟩
  have hM2 : MapFn secE Try.prog 3 w2.drew m s f := hM.block (old m hml (fun e => hne.2.1 e.symm))
  have hbuf2 : Buf w2.drew 72 66 v1 l.length (l.flatMap wtL) := hbuf.kept fun k hk => old k (hbuf.lt k hk) (fun e => hv.1 (by rw [hk, e]))
  have HD := Lib.hid (del_any hE hM2 hbuf2 hv.2.1 (fun k hk => by have := hbuf.lt k hk; refine ⟨by omega, by omega, fun e => hv.1 (by rw [hk, e]), fun e => hv.2.2 (by rw [hk, e])⟩) hl hsl)
  have hvl : ∀ k, bufBlock v1 = some k → k < w.heap.size := fun k hk => hbuf.lt k hk
  have d1 : w2.drew.cell? ⟨g, 1, none⟩ = some v1 := bb.1.2.1
  have y0' : w2.drew.cell? ⟨w.heap.size, 0, none⟩ = some (.pointer (some ⟨g, 0, none⟩)) := y0
  have fin : ∀ (w3 : World) (s' : Nat) (v' : Value), Buf w3 72 66 v' (keepL d l).length ((keepL d l).flatMap wtL) → bufBlock v' = bufBlock v1 → Turn (m :: (bufBlock v1).toList) w2.drew w3 → MapFn secE Try.prog 3 w3 m s' (fl d l f) → s' + (keepL d l).length ≤ s + l.length →
      Hid (w3.cell? ⟨w.heap.size, 0, none⟩ = some (.pointer (some ⟨g, 0, none⟩)) ∧ w3.cell? ⟨g, 1, none⟩ = some v1 ∧ w3.frozen? ⟨g, 1, none⟩ = false ∧ v'.oneCell' = true ∧ FlushIn d g m s l f (.slice (some ⟨dk, 0, none⟩) most.length cd) v1 fuse steps w (w3.setCell ⟨g, 1, none⟩ v')) := by
    intro w3 s' v' q1 q2 q3 q4 q5
    have gb : w3.heap[g]? = w2.heap[g]? := q3.block g hb2.out.lt (by simp; exact ⟨hne.2.1, hv.1⟩)
    have bx : w3.heap[w.heap.size]? = w2.heap[w.heap.size]? := q3.block w.heap.size (by show _ < w2.heap.size; omega) (by simp; exact ⟨by omega, fun e => by have := hvl _ e; omega⟩)
    refine ⟨(World.cell?_of_block (a := ⟨w.heap.size, 0, none⟩) bx).trans y0, (World.cell?_of_block (a := ⟨g, 1, none⟩) gb).trans bb.1.2.1, (World.frozen?_of_block (a := ⟨g, 1, none⟩) gb).trans bb.2.2.1, (by obtain ⟨_, _, rfl, _, _⟩ := q1.shape; rfl), s', v', (hb2.out.kept gb).waits v', ?_, q2, ?_, ?_, q5⟩
    · exact q1.kept fun k hk => Below.heap_setCell _ _ _ _ (fun e => hv.1 (by rw [← q2, hk, e]))
    · refine Turn.set ?_ (.inl (by simp)) _ _
      have t1 : Turn (g :: m :: (bufBlock v1).toList) w w2 := ((((Turn.refl _ w).alloc _).alloc _).drewN _ |>.trans (⟨ht2.os, ht2.tape, ht2.output, ht2.size, fun k hk hn => ht2.block k hk (fun e => hn (by simp [e]))⟩ : Turn (g :: m :: (bufBlock v1).toList) _ w2))
      exact t1.drew.trans (q3.mono fun k hk => List.mem_cons_of_mem _ hk)
    · exact q4.block (Below.heap_setCell _ _ _ _ (fun e => hne.2.1 e.symm))
  clear x1 x2 y2 hE hM2 hbuf2 e0 e2 b2 old UP bb
  go_wp2_with fail
  refine wp_region_held_drew (S := (fun W => W.cell? ⟨w.heap.size, 0, none⟩ = some (.pointer (some ⟨g, 0, none⟩)))) (by kernel_rfl) (y0') (fun hHeld => ?_)
  refine wpAnyH_take (i := 0) (oi := { dst := some 26, op := Op.load 24 (Operand.tmp 2), type := 24, pos := "plant.go:121", after := #[], guard := none }) (v := ?_) rfl (by kernel_rfl) (by kernel_rfl) (by kernel_rfl) (fun _ _ _ h => h) (Or.inl ⟨by rfl, ?hy1⟩) (by assumption) ?rest1
  case hy1 => (intro w hSw; (try dsimp only at hSw); go_simp; try with_reducible rfl)
  try simp only [Act.put, List.setIfInBounds_toArray, List.set_cons_zero, List.set_cons_succ]
  refine wpAnyH_take (i := 1) (oi := { dst := some 27, op := Op.load 24 (Operand.tmp 2), type := 24, pos := "plant.go:121", after := #[], guard := none }) (v := ?_) rfl (by kernel_rfl) (by kernel_rfl) (by kernel_rfl) (fun _ _ _ h => h) (Or.inl ⟨by rfl, ?hy4⟩) (by assumption) ?rest4
  case hy4 => (intro w hSw; (try dsimp only at hSw); go_simp; try with_reducible rfl)
  try simp only [Act.put, List.setIfInBounds_toArray, List.set_cons_zero, List.set_cons_succ]
  refine wpAnyH_take (i := 2) (oi := { dst := some 28, op := Op.nilCheck (Operand.tmp 27), type := 0, pos := "plant.go:121", after := #[{ on := 1, ground := Ground.data }], guard := none }) (v := ?_) rfl (by kernel_rfl) (by kernel_rfl) (by kernel_rfl) (fun _ _ _ h => h) (Or.inl ⟨by rfl, ?hy7⟩) (by assumption) ?rest7
  case hy7 => (intro w hSw; (try dsimp only at hSw); go_simp; try with_reducible rfl)
  try simp only [Act.put, List.setIfInBounds_toArray, List.set_cons_zero, List.set_cons_succ]
  refine wpAnyH_take (i := 3) (oi := { dst := some 29, op := Op.fieldAddr 64 (Operand.tmp 28) 1, type := 0, pos := "plant.go:121", after := #[{ on := 2, ground := Ground.data }], guard := none }) (v := ?_) rfl (by kernel_rfl) (by kernel_rfl) (by kernel_rfl) (fun _ _ _ h => h) (Or.inl ⟨by rfl, ?hy10⟩) (by assumption) ?rest10
  case hy10 => (intro w hSw; (try dsimp only at hSw); go_simp; try with_reducible rfl)
  try simp only [Act.put, List.setIfInBounds_toArray, List.set_cons_zero, List.set_cons_succ]
  refine wpAnyH_take (i := 5) (oi := { dst := some 31, op := Op.makeFunc (Fn.func 35) #[] #[Operand.tmp 3, Operand.tmp 2], type := 74, pos := "plant.go:121", after := #[], guard := none }) (v := ?_) rfl (by kernel_rfl) (by kernel_rfl) (by kernel_rfl) (fun _ _ _ h => h) (Or.inl ⟨by rfl, ?hy13⟩) (by assumption) ?rest13
  case hy13 => (intro w hSw; (try dsimp only at hSw); go_simp; try with_reducible rfl)
  try simp only [Act.put, List.setIfInBounds_toArray, List.set_cons_zero, List.set_cons_succ]
  refine wpAnyH_ready (rs := [4]) (by kernel_rfl) (by simp) (AllReadyH.cons (o := { dst := some 30, op := Op.load 62 (Operand.tmp 29), type := 62, pos := "plant.go:121", after := #[{ on := 3, ground := Ground.data }], guard := none }) rfl (fun K hK => ?_) AllReadyH.nil)
  refine step_run rfl v1 (exec_load 62 (.tmp 29) rfl ⟨g, 1, none⟩ rfl _ (run_loadVar_cell Try.underlying62 rfl d1)) ?_
  refine hK.out _ _ (y0') (fun hHeld => ?_)
  clear hK K
  try simp only [Act.put, List.setIfInBounds_toArray, List.set_cons_zero, List.set_cons_succ]
  refine wpAnyH_ready (rs := [6]) (by kernel_rfl) (by simp) (AllReadyH.cons (o := { dst := some 32, op := Op.call { callee := Callee.value (Operand.func 34), args := #[Operand.tmp 30, Operand.tmp 31], argTypes := #[62, 74] }, type := 62, pos := "plant.go:121", after := #[{ on := 4, ground := Ground.data }, { on := 5, ground := Ground.data }], guard := none }) rfl (fun K hK => ?_) AllReadyH.nil)
  go_simp
  refine HD.out.mono ?_
  rintro e w3 ⟨s', v', rfl, q1, q2, q3, q4, q5⟩
  obtain ⟨p1, p2, p3, p4, p5⟩ := (fin w3 s' v' q1 q2 q3 q4 q5).out
  refine hK.out _ _ (p1) (fun hHeld => ?_)
  clear hK K
  try simp only [Act.put, List.setIfInBounds_toArray, List.set_cons_zero, List.set_cons_succ]
  refine wpAnyH_take (i := 7) (oi := { dst := some 33, op := Op.nilCheck (Operand.tmp 26), type := 0, pos := "plant.go:121", after := #[{ on := 0, ground := Ground.data }, { on := 0, ground := Ground.phase }, { on := 1, ground := Ground.phase }, { on := 2, ground := Ground.phase }, { on := 3, ground := Ground.phase }, { on := 4, ground := Ground.phase }, { on := 5, ground := Ground.phase }, { on := 6, ground := Ground.phase }], guard := none }) (v := ?_) rfl (by kernel_rfl) (by kernel_rfl) (by kernel_rfl) (fun _ _ _ h => h) (Or.inl ⟨by rfl, ?hy29⟩) (by assumption) ?rest29
  case hy29 => (intro w hSw; (try dsimp only at hSw); go_simp; try with_reducible rfl)
  try simp only [Act.put, List.setIfInBounds_toArray, List.set_cons_zero, List.set_cons_succ]
  refine wpAnyH_take (i := 8) (oi := { dst := some 34, op := Op.fieldAddr 64 (Operand.tmp 33) 1, type := 0, pos := "plant.go:121", after := #[{ on := 7, ground := Ground.data }, { on := 0, ground := Ground.phase }, { on := 1, ground := Ground.phase }, { on := 2, ground := Ground.phase }, { on := 3, ground := Ground.phase }, { on := 4, ground := Ground.phase }, { on := 5, ground := Ground.phase }, { on := 6, ground := Ground.phase }], guard := none }) (v := ?_) rfl (by kernel_rfl) (by kernel_rfl) (by kernel_rfl) (fun _ _ _ h => h) (Or.inl ⟨by rfl, ?hy32⟩) (by assumption) ?rest32
  case hy32 => (intro w hSw; (try dsimp only at hSw); go_simp; try with_reducible rfl)
  try simp only [Act.put, List.setIfInBounds_toArray, List.set_cons_zero, List.set_cons_succ]
  refine wpAnyH_ready (rs := [9]) (by kernel_rfl) (by simp) (AllReadyH.cons (o := { dst := none, op := Op.store 62 (Operand.tmp 34) (Operand.tmp 32), type := 0, pos := "plant.go:121", after := #[{ on := 8, ground := Ground.data }, { on := 6, ground := Ground.data }, { on := 6, ground := Ground.chain }, { on := 0, ground := Ground.phase }, { on := 1, ground := Ground.phase }, { on := 2, ground := Ground.phase }, { on := 3, ground := Ground.phase }, { on := 4, ground := Ground.phase }, { on := 5, ground := Ground.phase }, { on := 6, ground := Ground.phase }], guard := none }) rfl (fun K hK => ?_) AllReadyH.nil)
  refine step_nov rfl (exec_store 62 (.tmp 34) (.tmp 32) rfl ⟨g, 1, none⟩ rfl v' rfl (run_storeVar_cell (by kernel_rfl) p2 p3 p4)) ?_
  refine hK.out _ _ ((World.cell?_of_block (a := ⟨w.heap.size, 0, none⟩) (Below.heap_setCell _ _ _ _ (by simp; omega))).trans p1) (fun hHeld => ?_)
  clear hK K
  refine wpAnyH_done (by kernel_rfl) ?_ _
  clear d1 y0' fin
  go_wp2_with fail
  go_ret
  exact ⟨rfl, p5⟩

theorem lit_ne {a b : Nat} (h : a ≠ b) : (Lit.int .i64 (a : Int)) ≠ Lit.int .i64 (b : Int) := by
  intro e
  simp at e
  omega
theorem fl_at (d n : Nat) : ∀ (l : List Wt) (f : Lit → Option Sec) (has : Nat → Nat → Sec), (∀ k : Nat, k < n → (f (.int .i64 k)).getD zeroS = has d k) → ∀ k : Nat, k < n → (fl d l f (.int .i64 k)).getD zeroS = putAll (fun w => w.dev == d) l has d k
  | [], _, _, h => h
  | x :: l, f, has, h => by
    rw [fl, putAll]
    refine fl_at d n l _ _ fun k hk => ?_
    by_cases e : x.dev = d
    · rw [if_pos e, if_pos (by simpa using e)]
      by_cases e2 : k = x.place
      · subst e2
        rw [upd_same, if_pos ⟨e.symm, rfl⟩]
        rfl
      · rw [upd_other (lit_ne e2), if_neg (fun h => e2 h.2)]
        exact h k hk
    · rw [if_neg e, if_neg (by simpa using e)]
      exact h k hk
theorem put_else (d d' : Nat) (hd : d' ≠ d) (l : List Wt) (has : Nat → Nat → Sec) (k : Nat) : putAll (fun w => w.dev == d) l has d' k = has d' k := by
  rw [putAll_at]
  refine lastW_skip _ _ _ _ fun w hw => ?_
  have := (List.mem_filter.1 hw).2
  have h2 : w.dev = d := by simpa using this
  omega
theorem putAll_len (keep : Wt → Bool) : ∀ (l : List Wt) (has : Nat → Nat → Sec), (∀ d k, (has d k).length = 64) → (∀ x ∈ l, x.b.length = 64) → ∀ d k, (putAll keep l has d k).length = 64
  | [], _, h, _ => h
  | x :: l, has, h, hl => by
    rw [putAll]
    refine putAll_len keep l _ (fun d k => ?_) fun y hy => hl y (by simp [hy])
    split
    · show (if d = x.dev ∧ k = x.place then x.b else has d k).length = 64
      split
      · exact hl x (by simp)
      · exact h d k
    · exact h d k
/-- A flush done: the plant as a whole. -/
theorem flush_left {w : World} {g : Nat} {p : PS} {dk cd : Nat} {D : Array Value} {v1 : Value} {ms : List Nat} (hP : IsP w g p (g :: dk :: ((bufBlock v1).toList ++ ms))) (h2 : p.most.length ≤ cd) (h3 : cd ≤ maxLen)
    (h4 : w.heap[dk]? = some (.cells D 67 (0, 0))) (h5 : D.size = cd * 2) (h6 : ms.length = p.most.length)
    (h7 : ∀ i (h : i < p.most.length) (h' : i < ms.length), D[i * 2]? = some (.int .i64 p.most[i]) ∧ D[i * 2 + 1]? = some (.map (some ms[i])) ∧
      ∃ s f, MapFn secE Try.prog 3 w ms[i] s f ∧ (s : Int) + p.waits.length ≤ p.steps ∧ ∀ k : Nat, k < p.most[i] → (f (.int .i64 k)).getD zeroS = p.has i k)
    (h10 : (g :: dk :: ((bufBlock v1).toList ++ ms)).Nodup) (hoff : p.off = false) {d s : Nat} {f : Lit → Option Sec} (hd : d < p.most.length) (hd' : d < ms.length) (hs : (s : Int) + p.waits.length ≤ p.steps) (hf : ∀ k : Nat, k < p.most[d] → (f (.int .i64 k)).getD zeroS = p.has d k) {w' : World}
    (hw : FlushIn d g ms[d] s p.waits f (.slice (some ⟨dk, 0, none⟩) p.most.length cd) v1 p.fuse p.steps w w') :
    Left w g ({ p with fuse := if 0 < p.fuse then p.fuse - 1 else p.fuse, steps := p.steps + 1 }.flush d) (g :: dk :: ((bufBlock v1).toList ++ ms)) w' := by
  have hok := hP.ok
  obtain ⟨s', v1', a1, a2, a3, a4, a5, a6⟩ := hw
  have hnd := h10
  simp only [List.nodup_cons, List.mem_cons, List.mem_append, not_or] at hnd
  have hnm := List.nodup_append.1 hnd.2.2
  have hw0 := hok.fuse
  have hs0 := hok.steps
  have hkl : (keepL d p.waits).length ≤ p.waits.length := List.length_filter_le _ _
  have blk : ∀ k, k ≠ g → k ≠ ms[d] → bufBlock v1 ≠ some k → k < w.heap.size → w'.heap[k]? = w.heap[k]? := fun k hk hk1 hk' hlt => a4.block k hlt (by simp; exact ⟨hk, hk1, hk'⟩)
  have vm : ∀ i (hi : i < ms.length), bufBlock v1 ≠ some ms[i] := fun i hi e => hnm.2.2 ms[i] (by simp [e]) ms[i] (by simp) rfl
  refine ⟨g :: dk :: ((bufBlock v1').toList ++ ms), ⟨⟨hok.disks, hok.most, ?_, ?_, ?_, by show 0 ≤ p.steps + 1; omega⟩, dk, cd, D, v1', ms, ?_, h2, h3, ?_, h5, h6, fun i hi hi' => ?_, ?_, rfl, ?_⟩, a4.mono ?_, ?_⟩
  · exact putAll_len _ _ _ hok.sec fun x hx => (hok.wait x hx).1
  · intro x hx
    exact hok.wait x (List.mem_filter.1 hx).1
  · show -1 ≤ (if 0 < p.fuse then p.fuse - 1 else p.fuse) ∧ (if 0 < p.fuse then p.fuse - 1 else p.fuse) ≤ 9223372036854775807
    split <;> omega
  · show Blk w' g _ v1' p.off _ _
    rw [hoff]
    exact a1
  · exact (blk dk (fun e => hnd.1.1 e.symm) (fun e => hnd.2.1.2 (by rw [e]; simp)) (fun e => hnd.2.1.1 (by simp [e])) (Array.getElem?_eq_some_iff.1 h4).1).trans h4
  · obtain ⟨x1, x2, si, fi, c, y1, y2⟩ := h7 i hi hi'
    refine ⟨x1, x2, ?_⟩
    by_cases e : i = d
    · subst e
      refine ⟨s', _, a5, ?_, ?_⟩
      · show (s' : Int) + ((keepL i p.waits).length : Nat) ≤ p.steps + 1
        omega
      · exact fl_at i p.most[i] p.waits f p.has hf
    · refine ⟨si, fi, c.block (blk _ (fun e => hnd.1.2.2 (by rw [← e]; simp)) (fun e' => e ((List.getElem_inj hnm.2.1).1 e')) (vm i hi') c.lt), ?_, fun k hk => ?_⟩
      · show (si : Int) + ((keepL d p.waits).length : Nat) ≤ p.steps + 1
        omega
      · rw [y2 k hk]
        exact (put_else d i e p.waits p.has k).symm
  · exact a2
  · rw [a3]
    exact h10
  · intro k hk
    rcases List.mem_cons.1 hk with hk | hk
    · exact List.mem_cons.2 (.inl hk)
    rcases List.mem_cons.1 hk with hk | hk
    · rw [hk]
      exact List.mem_cons_of_mem _ (List.mem_cons_of_mem _ (List.mem_append_right _ (by simp)))
    · exact List.mem_cons_of_mem _ (List.mem_cons_of_mem _ (List.mem_append_left _ hk))
  · intro k hk
    rw [a3] at hk
    exact .inl hk
set_option maxHeartbeats 1000000 in
theorem flush_any {w : World} {g : Nat} {p : PS} {O : List Nat} (h : IsP w g p O) (dev : Int) (hst : p.steps < 1099511627776) :
    Calls Try.prog 13 #[.pointer (some ⟨g, 0, none⟩), .int .i64 dev] w fun e w' => e = .returned (.int .i64 (p.flushAt dev).2) ∧ Left w g (p.flushAt dev).1 O w' := by
  have hP := Lib.hid h
  obtain ⟨hok, dk, cd, D, v1, ms, h1, h2, h3, h4, h5, h6, h7, h8, rfl, h10⟩ := h
  have hw0 := hok.fuse
  have hs0 := hok.steps
  have hnd := h10
  simp only [List.nodup_cons, List.mem_cons, List.mem_append, not_or] at hnd
  have hgl := h1.lt
  have hpl : Left w g p (g :: dk :: ((bufBlock v1).toList ++ ms)) (((w.alloc (.cells #[.pointer (some ⟨g, 0, none⟩)] 24)).alloc (.cells #[.int .i64 dev] 3))) :=
    ⟨_, hP.out.below (((Below.refl _ _).alloc (Nat.le_refl _) _).alloc (by simp) _), ((Turn.refl _ w).alloc _).alloc _, fun _ hk => .inl hk⟩
  have HPL := Lib.hid hpl
  have up2 : ∀ k, k < w.heap.size → ((w.alloc (.cells #[.pointer (some ⟨g, 0, none⟩)] 24)).alloc (.cells #[.int .i64 dev] 3)).heap[k]? = w.heap[k]? := fun k hk => (Below.heap_alloc _ _ _ (by simp; omega)).trans (Below.heap_alloc _ _ _ hk)
  by_cases ho : p.off = true
  · have he : p.flushAt dev = (p, 2) := by simp [PS.flushAt, ho]
    rw [he]
    rw [ho] at h1
    obtain ⟨⟨c0, c1, c2, c3, c4⟩, _⟩ := h1.cells
    have e2 := (World.cell?_of_block (a := ⟨g, 2, none⟩) (up2 g hgl)).trans c2
    clear he ho h1 h7 hnd c0 c1 c2 c3 c4 hpl up2
    go_enter Try.func13, Try.ntmps13
    go_wp2_with fail
    go_ret
    exact ⟨rfl, HPL.out⟩
  · have ho' : p.off = false := by simpa using ho
    have h1' := Lib.hid h1
    rw [ho'] at h1
    by_cases hr : dev < 0 ∨ (p.most.length : Int) ≤ dev
    · have he : p.flushAt dev = (p, 31) := by simp [PS.flushAt, ho', hr]
      rw [he]
      obtain ⟨⟨c0, c1, c2, c3, c4⟩, _⟩ := h1.cells
      have e0 := (World.cell?_of_block (a := ⟨g, 0, none⟩) (up2 g hgl)).trans c0
      have e2 := (World.cell?_of_block (a := ⟨g, 2, none⟩) (up2 g hgl)).trans c2
      have HPN : Hid (∀ n, Left w g p (g :: dk :: ((bufBlock v1).toList ++ ms)) (((w.alloc (.cells #[.pointer (some ⟨g, 0, none⟩)] 24)).alloc (.cells #[.int .i64 dev] 3)).drewN n)) := Lib.hid fun n =>
        ⟨_, hP.out.keep fun k hk => up2 k (hP.out.lt k hk), (((Turn.refl _ w).alloc _).alloc _).drewN n, fun _ hk => .inl hk⟩
      by_cases hd : dev < 0
      · have hd2 : decide (dev < 0) = true := by simpa using hd
        clear he ho ho' h1 h7 hnd c0 c1 c2 c3 c4 hpl up2 hr
        go_enter Try.func13, Try.ntmps13
        go_wp2_with fail
        go_quiet (fail)
        go_wp2_with fail
        go_ret
        exact ⟨rfl, HPN.out _⟩
      · have hd2 : decide (dev < 0) = false := by simpa using hd
        have hd3 : (p.most.length : Int) ≤ dev := by omega
        clear he ho ho' h1 h7 hnd c0 c1 c2 c3 c4 hpl up2 hr
        go_enter Try.func13, Try.ntmps13
        go_wp2_with fail
        go_quiet (fail)
        go_wp2_with fail
        go_ret
        exact ⟨rfl, HPN.out _⟩
    · obtain ⟨d, rfl⟩ : ∃ d : Nat, dev = d := ⟨dev.toNat, by omega⟩
      have hd : d < p.most.length := by omega
      by_cases hf : p.fuse = 0
      · have he : p.flushAt d = (p.step.1, 2) := by simp only [PS.flushAt, ho', if_neg hr, hf]; simp
        have hstep : p.step.1 = { p with off := true, fuse := -1 } := by simp [PS.step, hf]
        rw [he, hstep]
        obtain ⟨⟨c0, c1, c2, c3, c4⟩, _⟩ := h1.cells
        have e0 := (World.cell?_of_block (a := ⟨g, 0, none⟩) (up2 g hgl)).trans c0
        have e2 := (World.cell?_of_block (a := ⟨g, 2, none⟩) (up2 g hgl)).trans c2
        have HST := Lib.hid (fun nq => step_off (w := ((w.alloc (.cells #[.pointer (some ⟨g, 0, none⟩)] 24)).alloc (.cells #[.int .i64 d] 3)).drewN nq) (h1.kept (up2 g hgl)) hf ⟨hs0, by omega⟩)
        have hd0 : ¬ (d : Int) < 0 := by omega
        have hd2 : decide ((d : Int) < 0) = false := by simp
        have hd1 : ¬ ((p.most.length : Int) ≤ (d : Int)) := by omega
        have HP2 : Hid (∀ n, IsP (((w.alloc (.cells #[.pointer (some ⟨g, 0, none⟩)] 24)).alloc (.cells #[.int .i64 d] 3)).drewN n) g p (g :: dk :: ((bufBlock v1).toList ++ ms))) := Lib.hid fun n => hP.out.keep fun k hk => up2 k (hP.out.lt k hk)
        have HB2 : Hid (∀ n, Blk (((w.alloc (.cells #[.pointer (some ⟨g, 0, none⟩)] 24)).alloc (.cells #[.int .i64 d] 3)).drewN n) g (.slice (some ⟨dk, 0, none⟩) p.most.length cd) v1 p.off p.fuse p.steps) := Lib.hid fun n => h1'.out.kept (up2 g hgl)
        clear he hstep ho ho' h1 h7 hnd c0 c1 c2 c3 c4 hpl up2 hr hf
        go_enter Try.func13, Try.ntmps13
        go_wp2_with fail
        go_quiet (fail)
        go_wp2_with fail
        refine (HST.out _).mono ?_
        rintro e w2 ⟨rfl, ht2, hb2⟩
        go_wp2_with fail
        go_ret
        exact ⟨rfl, _, (HP2.out _).reblk ht2 (HB2.out _) hb2.out (Int.le_refl _) (by omega), (((Turn.refl _ w).alloc _).alloc _).drewN _ |>.trans (Turn.of_touch ht2 (by simp)), fun _ hk => .inl hk⟩
      · have he : p.flushAt d = (p.step.1.flush d, 0) := by simp only [PS.flushAt, ho', if_neg hr, if_neg hf]; simp
        have hstep : p.step.1 = { p with fuse := if 0 < p.fuse then p.fuse - 1 else p.fuse, steps := p.steps + 1 } := by simp [PS.step, hf]
        rw [he, hstep]
        have hd' : d < ms.length := by omega
        obtain ⟨x1, x2, s, f, c, y1, y2⟩ := h7 d hd hd'
        have hnm := List.nodup_append.1 hnd.2.2
        refine (flush_in h1 d ms[d] s f hd ((cells_at h4 _).trans x2) c ⟨fun e => hnd.2.1.2 (by rw [e]; simp), fun e => hnd.1.2.2 (by rw [e]; simp), hnd.1.1⟩ ⟨fun e => hnd.1.2.1 (by simp [e]), fun e => hnm.2.2 ms[d] (by simp [e]) ms[d] (by simp) rfl, fun e => hnd.2.1.1 (by simp [e])⟩ hw0 ⟨hs0, by omega⟩ hf p.waits
          (fun x hx => ⟨(hok.wait x hx).1, by obtain ⟨n, hn, hp⟩ := (hok.wait x hx).2; have := hok.most n (List.mem_of_getElem? hn); omega⟩) h8 (by omega)).mono ?_
        rintro e w' ⟨rfl, hW⟩
        exact ⟨rfl, flush_left hP.out h2 h3 h4 h5 h6 h7 h10 ho' hd hd' y1 y2 hW⟩
end Go.Proofs.Ytpnijopbbbgffaa.plantw
