/- Walks of layer 3: Clone of a plant. Conditions: as each theorem says. -/
import Derived.Test.YtpnijopbbbgffaaPlantC
import Derived.Deep.RegionHeld3
namespace Go.Proofs.Ytpnijopbbbgffaa.plantw
open Go.RowKit
open Go.Proofs.Ytpnijopbbbgffaa.plantp
open Go.Proofs.Ytpnijopbbbgffaa.mapfn
open Go.Proofs.Ytpnijopbbbgffaa.buf
/-- What a disk's cells are. -/
def dkL (most ms : List Nat) : List Value := (most.zip ms).flatMap fun x => [.int .i64 (x.1 : Nat), .map (some x.2)]
theorem addr0 (g j : Nat) : (⟨g, 0, none⟩ : Addr).add j = ⟨g, j, none⟩ := by unfold Addr.add; split <;> simp_all
theorem Buf.one {w : World} {e size : Nat} {v : Value} {n : Nat} {xs : List Value} (h : Buf w e size v n xs) : v.oneCell' = true := by
  obtain ⟨_, _, rfl, _, _⟩ := h.shape
  rfl
theorem Buf.set1 {w : World} {e size g c : Nat} {n : Nat} {xs : List Value} (h : Buf w e size (.slice (some ⟨g, 0, none⟩) n c) n xs) {p : Nat} (hp : p < n * size) (u : Value) : Buf (w.setCell ⟨g, p, none⟩ u) e size (.slice (some ⟨g, 0, none⟩) n c) n (xs.set p u) := by
  obtain ⟨h1, ⟨h2, _⟩ | ⟨g', cap, cur, hv, h3, h4, h5, h6, h7, h8⟩⟩ := h
  · subst h2; omega
  · simp at hv
    obtain ⟨rfl, rfl⟩ := hv
    refine ⟨by rw [List.length_set, h1], .inr ⟨g, c, cur.setIfInBounds p u, rfl, heap_set h3 p u, h4, h5, h6, by simp [h7], ?_⟩⟩
    rw [Array.toList_setIfInBounds, List.take_set, h8]
theorem Buf.frozen {w : World} {e size g c : Nat} {n : Nat} {xs : List Value} (h : Buf w e size (.slice (some ⟨g, 0, none⟩) n c) n xs) (hn : 0 < n) (p : Nat) : w.frozen? ⟨g, p, none⟩ = false := by
  obtain ⟨h1, ⟨h2, _⟩ | ⟨g', cap, cur, hv, h3, h4, h5, h6, h7, h8⟩⟩ := h
  · omega
  · simp at hv
    obtain ⟨rfl, rfl⟩ := hv
    exact frozen_at h3 p
theorem dkL_len : ∀ (most ms : List Nat), ms.length = most.length → (dkL most ms).length = most.length * 2
  | [], _, _ => by simp [dkL]
  | _ :: _, [], h => by simp at h
  | a :: most, b :: ms, h => by
    have := dkL_len most ms (by simpa using h)
    unfold dkL at this ⊢
    rw [List.zip_cons_cons, List.flatMap_cons, List.length_append, this]
    simp
    omega
theorem dkL_at : ∀ (most ms : List Nat) i (h : i < most.length) (h' : i < ms.length), (dkL most ms)[i * 2]? = some (.int .i64 most[i]) ∧ (dkL most ms)[i * 2 + 1]? = some (.map (some ms[i]))
  | [], _, i, h, _ => by simp at h
  | _ :: _, [], i, _, h => by simp at h
  | a :: most, b :: ms, 0, _, _ => by simp [dkL]
  | a :: most, b :: ms, i + 1, h, h' => by
    have := dkL_at most ms i (by simpa using h) (by simpa using h')
    unfold dkL at this ⊢
    rw [List.zip_cons_cons, List.flatMap_cons, show (i + 1) * 2 = i * 2 + 2 by omega, show i * 2 + 2 + 1 = i * 2 + 1 + 2 by omega, List.getElem?_append_right (by simp), List.getElem?_append_right (by simp)]
    simpa using this
theorem dkL_eq (most ms : List Nat) (hm : ms.length = most.length) (xs : List Value) (hx : xs.length = most.length * 2) (h : ∀ i (_h : i < most.length) (h' : i < ms.length), xs[i * 2]? = some (.int .i64 most[i]) ∧ xs[i * 2 + 1]? = some (.map (some ms[i]))) : xs = dkL most ms := by
  apply List.ext_getElem?
  intro k
  by_cases hk : k < most.length * 2
  · have h1 := h (k / 2) (by omega) (by omega)
    have h2 := dkL_at most ms (k / 2) (by omega) (by omega)
    rcases Nat.mod_two_eq_zero_or_one k with e | e
    · have ek : k = k / 2 * 2 := by omega
      rw [ek, h1.1, h2.1]
    · have ek : k = k / 2 * 2 + 1 := by omega
      rw [ek, h1.2, h2.2]
  · rw [List.getElem?_eq_none (by omega), List.getElem?_eq_none (by rw [dkL_len _ _ hm]; omega)]
theorem dkL_set (most ms : List Nat) (hm : ms.length = most.length) (j m : Nat) (hj : j < most.length) : (dkL most ms).set (j * 2 + 1) (.map (some m)) = dkL most (ms.set j m) := by
  refine dkL_eq most (ms.set j m) (by simp [hm]) _ (by rw [List.length_set, dkL_len _ _ hm]) fun i hi hi' => ?_
  have h1 := dkL_at most ms i hi (by omega)
  refine ⟨by rw [List.getElem?_set_ne (by omega)]; exact h1.1, ?_⟩
  by_cases e : i = j
  · subst e
    rw [List.getElem?_set_self (by rw [dkL_len _ _ hm]; omega)]
    simp
  · rw [List.getElem?_set_ne (by omega), h1.2]
    simp [Ne.symm e]
theorem dkL_one (most ms : List Nat) : ∀ u ∈ dkL most ms, u.oneCell' = true := by
  intro u hu
  simp [dkL] at hu
  obtain ⟨a, b, _, rfl | rfl⟩ := hu <;> rfl
theorem flat_one (l : List Wt) : ∀ u ∈ l.flatMap wtL, u.oneCell' = true := by
  intro u hu
  obtain ⟨x, _, hx⟩ := List.mem_flatMap.1 hu
  exact (Array.all_eq_true_iff_forall_mem.1 (wtA_one x)) u (by simpa [wtA] using hx)
/-- A plant's copy in the making: its blocks are new; the first j disks have maps of their own. -/
def Copying (w : World) (most ms : List Nat) (l : List Wt) (off : Bool) (fuse steps : Int) (q dk' cd' : Nat) (v1' : Value) (j : Nat) (ms' : List Nat) (wr : World) : Prop :=
  ms'.length = most.length ∧ ms'.drop j = ms.drop j ∧ Below w.heap.size w wr ∧ Blk wr q (.slice (some ⟨dk', 0, none⟩) most.length cd') v1' off fuse steps ∧ Buf wr 72 66 v1' l.length (l.flatMap wtL) ∧
    Buf wr 67 2 (.slice (some ⟨dk', 0, none⟩) most.length cd') most.length (dkL most ms') ∧ (∀ i (_h : i < j) (h' : i < ms'.length) (h'' : i < ms.length), wr.heap[ms'[i]]? = w.heap[ms[i]]? ∧ ms'[i] < wr.heap.size) ∧
    (q :: dk' :: ((bufBlock v1').toList ++ ms'.take j)).Nodup ∧ ∀ k ∈ q :: dk' :: ((bufBlock v1').toList ++ ms'.take j), w.heap.size ≤ k
set_option maxHeartbeats 4000000 in
set_option maxRecDepth 100000 in
theorem clone_in {w : World} {g dk cd : Nat} {v1 : Value} {off : Bool} {fuse steps : Int} {most ms : List Nat} (h : Blk w g (.slice (some ⟨dk, 0, none⟩) most.length cd) v1 off fuse steps) (hms : ms.length = most.length)
    (hm1 : 1 ≤ most.length ∧ most.length ≤ 4) (hbd : Buf w 67 2 (.slice (some ⟨dk, 0, none⟩) most.length cd) most.length (dkL most ms)) (l : List Wt) (hbw : Buf w 72 66 v1 l.length (l.flatMap wtL)) (hl : l.length < 1099511627776)
    (hmap : ∀ m ∈ ms, ∃ es cl, w.heap[m]? = some (.map es cl)) :
    Calls Try.prog 22 #[.pointer (some ⟨g, 0, none⟩)] w fun e w' => ∃ q dk' cd' v1' ms', e = .returned (.pointer (some ⟨q, 0, none⟩)) ∧ Copying w most ms l off fuse steps q dk' cd' v1' most.length ms' w' := by
  obtain ⟨⟨c0, c1, c2, c3, c4⟩, _⟩ := h.cells
  have HB := Lib.hid h
  have hgl := h.lt
  obtain ⟨pw, cw, rfl, hn, hcw⟩ := hbw.shape
  have upA : ∀ {k : Nat}, k < w.heap.size → (w.alloc (.cells #[.slice (some ⟨dk, 0, none⟩) most.length cd, .slice pw l.length cw, .bool off, .int .i64 fuse, .int .i64 steps] 64)).heap[k]? = w.heap[k]? := fun hk => Below.heap_alloc _ _ _ hk
  have hqA : Blk (w.alloc (.cells #[.slice (some ⟨dk, 0, none⟩) most.length cd, .slice pw l.length cw, .bool off, .int .i64 fuse, .int .i64 steps] 64)).drew w.heap.size (.slice (some ⟨dk, 0, none⟩) most.length cd) (.slice pw l.length cw) off fuse steps := heap_alloc_last _ _
  have hSW : ∀ W : World, Below w.heap.size w W → W.cell? ⟨g, 0, none⟩ = some (.slice (some ⟨dk, 0, none⟩) most.length cd) ∧ W.cell? ⟨g, 1, none⟩ = some (.slice pw l.length cw) := fun W hW => ⟨(hW.cell (p := ⟨g, 0, none⟩) hgl).trans c0, (hW.cell (p := ⟨g, 1, none⟩) hgl).trans c1⟩
  have belA : Below w.heap.size w (w.alloc (.cells #[.slice (some ⟨dk, 0, none⟩) most.length cd, .slice pw l.length cw, .bool off, .int .i64 fuse, .int .i64 steps] 64)).drew := ((Below.refl _ _).alloc (Nat.le_refl _) _).drew
  have hS0 := hSW _ belA
  have szA : (w.alloc (.cells #[.slice (some ⟨dk, 0, none⟩) most.length cd, .slice pw l.length cw, .bool off, .int .i64 fuse, .int .i64 steps] 64)).drew.heap.size = w.heap.size + 1 := by simp
  have hSB : ∀ W : World, Below (w.alloc (.cells #[.slice (some ⟨dk, 0, none⟩) most.length cd, .slice pw l.length cw, .bool off, .int .i64 fuse, .int .i64 steps] 64)).drew.heap.size (w.alloc (.cells #[.slice (some ⟨dk, 0, none⟩) most.length cd, .slice pw l.length cw, .bool off, .int .i64 fuse, .int .i64 steps] 64)).drew W → W.cell? ⟨g, 0, none⟩ = some (.slice (some ⟨dk, 0, none⟩) most.length cd) ∧ W.cell? ⟨g, 1, none⟩ = some (.slice pw l.length cw) := fun W hW => hSW W (belA.trans (hW.mono (by rw [szA]; omega)))
  have hSC : ∀ W : World, Below (w.alloc (.cells #[.slice (some ⟨dk, 0, none⟩) most.length cd, .slice pw l.length cw, .bool off, .int .i64 fuse, .int .i64 steps] 64)).drew.heap.size (w.alloc (.cells #[.slice (some ⟨dk, 0, none⟩) most.length cd, .slice pw l.length cw, .bool off, .int .i64 fuse, .int .i64 steps] 64)).drew W → ∀ (i : Nat) (u : Value), (W.setCell ⟨w.heap.size, i, none⟩ u).cell? ⟨g, 0, none⟩ = some (.slice (some ⟨dk, 0, none⟩) most.length cd) ∧ (W.setCell ⟨w.heap.size, i, none⟩ u).cell? ⟨g, 1, none⟩ = some (.slice pw l.length cw) := fun W hW i u => hSW _ ((belA.trans (hW.mono (by rw [szA]; omega))).setCell (p := ⟨w.heap.size, i, none⟩) (Nat.le_refl _) u)
  have hSD : ∀ W : World, Below (w.alloc (.cells #[.slice (some ⟨dk, 0, none⟩) most.length cd, .slice pw l.length cw, .bool off, .int .i64 fuse, .int .i64 steps] 64)).drew.heap.size (w.alloc (.cells #[.slice (some ⟨dk, 0, none⟩) most.length cd, .slice pw l.length cw, .bool off, .int .i64 fuse, .int .i64 steps] 64)).drew W → ∀ (i : Nat) (u : Value) (i2 : Nat) (u2 : Value), ((W.setCell ⟨w.heap.size, i, none⟩ u).setCell ⟨w.heap.size, i2, none⟩ u2).cell? ⟨g, 0, none⟩ = some (.slice (some ⟨dk, 0, none⟩) most.length cd) ∧ ((W.setCell ⟨w.heap.size, i, none⟩ u).setCell ⟨w.heap.size, i2, none⟩ u2).cell? ⟨g, 1, none⟩ = some (.slice pw l.length cw) := fun W hW i u i2 u2 => hSW _ (((belA.trans (hW.mono (by rw [szA]; omega))).setCell (p := ⟨w.heap.size, i, none⟩) (Nat.le_refl _) u).setCell (p := ⟨w.heap.size, i2, none⟩) (Nat.le_refl _) u2)
  have HW := Lib.hid (clone_waits (w := (w.alloc (.cells #[.slice (some ⟨dk, 0, none⟩) most.length cd, .slice pw l.length cw, .bool off, .int .i64 fuse, .int .i64 steps] 64)).drew) (hbw.kept fun k hk => upA (hbw.lt k hk)) (flat_one l) (by omega) (by simp only [maxLen]; omega))
  have HDK : Hid (∀ W : World, Below (w.alloc (.cells #[.slice (some ⟨dk, 0, none⟩) most.length cd, .slice pw l.length cw, .bool off, .int .i64 fuse, .int .i64 steps] 64)).drew.heap.size (w.alloc (.cells #[.slice (some ⟨dk, 0, none⟩) most.length cd, .slice pw l.length cw, .bool off, .int .i64 fuse, .int .i64 steps] 64)).drew W → Calls Try.prog 38 #[.slice (some ⟨dk, 0, none⟩) most.length cd] W (CloneAt 67 2 most.length (dkL most ms) W)) := Lib.hid fun W hW =>
    clone_disks (hbd.kept fun k hk => (belA.trans (hW.mono (by rw [szA]; omega))).block k (hbd.lt k hk)) (dkL_one _ _) (by omega) (by simp only [maxLen]; omega)
  have FIN : Hid (∀ (w3 w4 : World) (v1' v0' : Value), Buf w3 72 66 v1' l.length (l.flatMap wtL) → (bufBlock v1' = none ∨ ∃ k, bufBlock v1' = some k ∧ (w.alloc (.cells #[.slice (some ⟨dk, 0, none⟩) most.length cd, .slice pw l.length cw, .bool off, .int .i64 fuse, .int .i64 steps] 64)).drew.heap.size ≤ k) → Below (w.alloc (.cells #[.slice (some ⟨dk, 0, none⟩) most.length cd, .slice pw l.length cw, .bool off, .int .i64 fuse, .int .i64 steps] 64)).drew.heap.size (w.alloc (.cells #[.slice (some ⟨dk, 0, none⟩) most.length cd, .slice pw l.length cw, .bool off, .int .i64 fuse, .int .i64 steps] 64)).drew w3 →
      Buf w4 67 2 v0' most.length (dkL most ms) → (bufBlock v0' = none ∨ ∃ k, bufBlock v0' = some k ∧ w3.heap.size ≤ k) → Below w3.heap.size w3 w4 →
      Hid (Below (w.alloc (.cells #[.slice (some ⟨dk, 0, none⟩) most.length cd, .slice pw l.length cw, .bool off, .int .i64 fuse, .int .i64 steps] 64)).drew.heap.size (w.alloc (.cells #[.slice (some ⟨dk, 0, none⟩) most.length cd, .slice pw l.length cw, .bool off, .int .i64 fuse, .int .i64 steps] 64)).drew w4 ∧ w4.cell? ⟨w.heap.size, 1, none⟩ = some (.slice pw l.length cw) ∧ w4.frozen? ⟨w.heap.size, 1, none⟩ = false ∧ v1'.oneCell' = true ∧
        (w4.setCell ⟨w.heap.size, 1, none⟩ v1').cell? ⟨w.heap.size, 0, none⟩ = some (.slice (some ⟨dk, 0, none⟩) most.length cd) ∧ (w4.setCell ⟨w.heap.size, 1, none⟩ v1').frozen? ⟨w.heap.size, 0, none⟩ = false ∧ v0'.oneCell' = true ∧
        Hid (∃ dk' cd', v0' = .slice (some ⟨dk', 0, none⟩) most.length cd' ∧ Copying w most ms l off fuse steps w.heap.size dk' cd' v1' 0 ms ((w4.setCell ⟨w.heap.size, 1, none⟩ v1').setCell ⟨w.heap.size, 0, none⟩ v0')))) := by
    refine Lib.hid fun w3 w4 v1' v0' hb1 hk1 hbel1 hb0 hk0 hbel0 => ?_
    have s3 := hbel1.size
    have s4 := hbel0.size
    rw [szA] at s3 hk1
    have bA4 : Below (w.alloc (.cells #[.slice (some ⟨dk, 0, none⟩) most.length cd, .slice pw l.length cw, .bool off, .int .i64 fuse, .int .i64 steps] 64)).drew.heap.size (w.alloc (.cells #[.slice (some ⟨dk, 0, none⟩) most.length cd, .slice pw l.length cw, .bool off, .int .i64 fuse, .int .i64 steps] 64)).drew w4 := hbel1.trans (hbel0.mono (by rw [szA]; omega))
    have q4 : Blk w4 w.heap.size (.slice (some ⟨dk, 0, none⟩) most.length cd) (.slice pw l.length cw) off fuse steps := hqA.kept (bA4.block _ (by rw [szA]; omega))
    have q5 := (q4.waits v1')
    obtain ⟨dk', cd', rfl⟩ : ∃ dk' cd', v0' = .slice (some ⟨dk', 0, none⟩) most.length cd' := by
      obtain ⟨_, ⟨h2, _⟩ | ⟨g', cap, cur, rfl, _⟩⟩ := hb0
      · omega
      · exact ⟨_, _, rfl⟩
    have hcd : 0 < cd' := by
      obtain ⟨_, _, hv, h1, _⟩ := hb0.shape
      simp at hv
      omega
    have eb : bufBlock (.slice (some ⟨dk', 0, none⟩) most.length cd') = some dk' := by simp [bufBlock]; omega
    have hdk' : w3.heap.size ≤ dk' := by
      rcases hk0 with h | ⟨k, h, hk⟩
      · rw [eb] at h; cases h
      · rw [eb] at h; simp at h; omega
    have hk1' : ∀ k, bufBlock v1' = some k → w.heap.size + 1 ≤ k ∧ k < w3.heap.size := fun k hk => ⟨by
      rcases hk1 with h | ⟨k', h, hk'⟩
      · rw [h] at hk; cases hk
      · rw [h] at hk; simp at hk; omega, hb1.lt k hk⟩
    refine ⟨bA4, q4.cells.1.2.1, q4.cells.2.2.1, Buf.one hb1, q5.cells.1.1, q5.cells.2.1, rfl, Lib.hid ⟨dk', cd', rfl, hms, rfl, ?_, q5.disks _, ?_, ?_, fun i hi => by omega, ?_, ?_⟩⟩
    · exact ((belA.trans (bA4.mono (by rw [szA]; omega))).setCell (p := ⟨w.heap.size, 1, none⟩) (Nat.le_refl _) _).setCell (p := ⟨w.heap.size, 0, none⟩) (Nat.le_refl _) _
    · refine hb1.kept fun k hk => ?_
      have := hk1' k hk
      exact (Below.heap_setCell _ _ _ _ (by simp; omega)).trans ((Below.heap_setCell _ _ _ _ (by simp; omega)).trans (hbel0.block k this.2))
    · refine hb0.kept fun k hk => ?_
      rw [eb] at hk
      simp at hk
      exact (Below.heap_setCell _ _ _ _ (by simp; omega)).trans (Below.heap_setCell _ _ _ _ (by simp; omega))
    · simp only [List.take_zero, List.append_nil, List.nodup_cons, List.mem_cons, Option.mem_toList, not_or]
      refine ⟨⟨by omega, fun hm => by have := hk1' _ hm; omega⟩, fun hm => by have := hk1' _ hm; omega, by cases bufBlock v1' <;> simp⟩
    · intro k hk
      simp only [List.take_zero, List.append_nil, List.mem_cons, Option.mem_toList] at hk
      rcases hk with rfl | rfl | hk
      · omega
      · omega
      · have := hk1' _ hk; omega
  have HSZ := Lib.hid szA
  clear h hbw upA hqA belA szA hgl
  go_enter Try.func22, Try.ntmps22
  go_wp2_with fail
  refine wp_region_held_drew (S := (fun W => W.cell? ⟨g, 0, none⟩ = some (.slice (some ⟨dk, 0, none⟩) most.length cd) ∧ W.cell? ⟨g, 1, none⟩ = some (.slice pw l.length cw))) (by kernel_rfl) (hS0) (fun hHeld => ?_)
  refine wpAnyH_take (i := 0) (oi := { dst := some 9, op := Op.move (Operand.tmp 0), type := 24, pos := "plant.go:165", after := #[], guard := none }) (v := ?_) rfl (by kernel_rfl) (by kernel_rfl) (by kernel_rfl) (fun _ _ _ h => h) (Or.inl ⟨by rfl, ?hyr2_1⟩) (by assumption) ?restr2_1
  case hyr2_1 => (intro w hSw; (try dsimp only at hSw); go_simp; try with_reducible rfl)
  try simp only [Act.put, List.setIfInBounds_toArray, List.set_cons_zero, List.set_cons_succ]
  refine wpAnyH_take (i := 1) (oi := { dst := some 10, op := Op.nilCheck (Operand.tmp 9), type := 0, pos := "plant.go:165", after := #[{ on := 0, ground := Ground.data }], guard := none }) (v := ?_) rfl (by kernel_rfl) (by kernel_rfl) (by kernel_rfl) (fun _ _ _ h => h) (Or.inl ⟨by rfl, ?hyr2_4⟩) (by assumption) ?restr2_4
  case hyr2_4 => (intro w hSw; (try dsimp only at hSw); go_simp; try with_reducible rfl)
  try simp only [Act.put, List.setIfInBounds_toArray, List.set_cons_zero, List.set_cons_succ]
  refine wpAnyH_take (i := 2) (oi := { dst := some 11, op := Op.fieldAddr 64 (Operand.tmp 10) 1, type := 0, pos := "plant.go:165", after := #[{ on := 1, ground := Ground.data }], guard := none }) (v := ?_) rfl (by kernel_rfl) (by kernel_rfl) (by kernel_rfl) (fun _ _ _ h => h) (Or.inl ⟨by rfl, ?hyr2_7⟩) (by assumption) ?restr2_7
  case hyr2_7 => (intro w hSw; (try dsimp only at hSw); go_simp; try with_reducible rfl)
  try simp only [Act.put, List.setIfInBounds_toArray, List.set_cons_zero, List.set_cons_succ]
  refine wpAnyH_take (i := 3) (oi := { dst := some 12, op := Op.load 62 (Operand.tmp 11), type := 62, pos := "plant.go:165", after := #[{ on := 2, ground := Ground.data }], guard := none }) (v := ?_) rfl (by kernel_rfl) (by kernel_rfl) (by kernel_rfl) (fun _ _ _ h => h) (Or.inl ⟨by rfl, ?hyr2_10⟩) (by assumption) ?restr2_10
  case hyr2_10 => (intro w hSw; (try dsimp only at hSw); go_simp; try with_reducible rfl)
  try simp only [Act.put, List.setIfInBounds_toArray, List.set_cons_zero, List.set_cons_succ]
  refine wpAnyH_take (i := 5) (oi := { dst := some 14, op := Op.move (Operand.tmp 0), type := 24, pos := "plant.go:165", after := #[], guard := none }) (v := ?_) rfl (by kernel_rfl) (by kernel_rfl) (by kernel_rfl) (fun _ _ _ h => h) (Or.inl ⟨by rfl, ?hyr2_13⟩) (by assumption) ?restr2_13
  case hyr2_13 => (intro w hSw; (try dsimp only at hSw); go_simp; try with_reducible rfl)
  try simp only [Act.put, List.setIfInBounds_toArray, List.set_cons_zero, List.set_cons_succ]
  refine wpAnyH_take (i := 6) (oi := { dst := some 15, op := Op.nilCheck (Operand.tmp 14), type := 0, pos := "plant.go:165", after := #[{ on := 5, ground := Ground.data }], guard := none }) (v := ?_) rfl (by kernel_rfl) (by kernel_rfl) (by kernel_rfl) (fun _ _ _ h => h) (Or.inl ⟨by rfl, ?hyr2_16⟩) (by assumption) ?restr2_16
  case hyr2_16 => (intro w hSw; (try dsimp only at hSw); go_simp; try with_reducible rfl)
  try simp only [Act.put, List.setIfInBounds_toArray, List.set_cons_zero, List.set_cons_succ]
  refine wpAnyH_take (i := 7) (oi := { dst := some 16, op := Op.fieldAddr 64 (Operand.tmp 15) 0, type := 0, pos := "plant.go:165", after := #[{ on := 6, ground := Ground.data }], guard := none }) (v := ?_) rfl (by kernel_rfl) (by kernel_rfl) (by kernel_rfl) (fun _ _ _ h => h) (Or.inl ⟨by rfl, ?hyr2_19⟩) (by assumption) ?restr2_19
  case hyr2_19 => (intro w hSw; (try dsimp only at hSw); go_simp; try with_reducible rfl)
  try simp only [Act.put, List.setIfInBounds_toArray, List.set_cons_zero, List.set_cons_succ]
  refine wpAnyH_take (i := 8) (oi := { dst := some 17, op := Op.load 61 (Operand.tmp 16), type := 61, pos := "plant.go:165", after := #[{ on := 7, ground := Ground.data }], guard := none }) (v := ?_) rfl (by kernel_rfl) (by kernel_rfl) (by kernel_rfl) (fun _ _ _ h => h) (Or.inl ⟨by rfl, ?hyr2_22⟩) (by assumption) ?restr2_22
  case hyr2_22 => (intro w hSw; (try dsimp only at hSw); go_simp; try with_reducible rfl)
  try simp only [Act.put, List.setIfInBounds_toArray, List.set_cons_zero, List.set_cons_succ]
  refine wpAnyH_ready (rs := [4]) (by kernel_rfl) (by simp) (AllReadyH.cons (o := { dst := some 13, op := Op.call { callee := Callee.value (Operand.func 37), args := #[Operand.tmp 12], argTypes := #[62] }, type := 62, pos := "plant.go:165", after := #[{ on := 3, ground := Ground.data }], guard := none }) rfl (fun K hK => ?_) AllReadyH.nil)
  go_simp
  refine HW.out.mono ?_
  rintro e w3 ⟨v1', rfl, hb1, hk1, hbel1⟩
  refine hK.out _ _ (hSB _ hbel1) (fun hHeld => ?_)
  clear hK K
  try simp only [Act.put, List.setIfInBounds_toArray, List.set_cons_zero, List.set_cons_succ]
  refine wpAnyH_ready (rs := [9]) (by kernel_rfl) (by simp) (AllReadyH.cons (o := { dst := some 18, op := Op.call { callee := Callee.value (Operand.func 38), args := #[Operand.tmp 17], argTypes := #[61] }, type := 61, pos := "plant.go:165", after := #[{ on := 8, ground := Ground.data }, { on := 4, ground := Ground.chain }], guard := none }) rfl (fun K hK => ?_) AllReadyH.nil)
  go_simp
  refine (HDK.out _ hbel1).mono ?_
  rintro e w4 ⟨v0', rfl, hb0, hk0, hbel0⟩
  obtain ⟨x0, x1, x2, x3, x4, x5, x6, x7⟩ := (FIN.out _ _ _ _ hb1 hk1 hbel1 hb0 hk0 hbel0).out
  refine hK.out _ _ (hSB _ x0) (fun hHeld => ?_)
  clear hK K
  try simp only [Act.put, List.setIfInBounds_toArray, List.set_cons_zero, List.set_cons_succ]
  refine wpAnyH_take (i := 10) (oi := { dst := some 19, op := Op.fieldAddr 64 (Operand.tmp 3) 1, type := 0, pos := "plant.go:165", after := #[{ on := 0, ground := Ground.phase }, { on := 1, ground := Ground.phase }, { on := 2, ground := Ground.phase }, { on := 3, ground := Ground.phase }, { on := 4, ground := Ground.phase }, { on := 5, ground := Ground.textOnly Departure.lateStores }, { on := 6, ground := Ground.textOnly Departure.lateStoresUnsure }, { on := 7, ground := Ground.textOnly Departure.lateStoresUnsure }, { on := 8, ground := Ground.phase }, { on := 9, ground := Ground.phase }], guard := none }) (v := ?_) rfl (by kernel_rfl) (by kernel_rfl) (by kernel_rfl) (fun _ _ _ h => h) (Or.inl ⟨by rfl, ?hyr2_40⟩) (by assumption) ?restr2_40
  case hyr2_40 => (intro w hSw; (try dsimp only at hSw); go_simp; try with_reducible rfl)
  try simp only [Act.put, List.setIfInBounds_toArray, List.set_cons_zero, List.set_cons_succ]
  refine wpAnyH_ready (rs := [11]) (by kernel_rfl) (by simp) (AllReadyH.cons (o := { dst := none, op := Op.store 62 (Operand.tmp 19) (Operand.tmp 13), type := 0, pos := "plant.go:165", after := #[{ on := 10, ground := Ground.data }, { on := 4, ground := Ground.data }, { on := 9, ground := Ground.chain }, { on := 0, ground := Ground.phase }, { on := 1, ground := Ground.phase }, { on := 2, ground := Ground.phase }, { on := 3, ground := Ground.phase }, { on := 4, ground := Ground.phase }, { on := 5, ground := Ground.textOnly Departure.lateStores }, { on := 6, ground := Ground.textOnly Departure.lateStoresUnsure }, { on := 7, ground := Ground.textOnly Departure.lateStoresUnsure }, { on := 8, ground := Ground.phase }, { on := 9, ground := Ground.phase }], guard := none }) rfl (fun K hK => ?_) AllReadyH.nil)
  refine step_nov rfl (exec_store 62 (.tmp 19) (.tmp 13) rfl ⟨w.heap.size, 1, none⟩ rfl v1' rfl (run_storeVar_cell (by kernel_rfl) x1 x2 x3)) ?_
  refine hK.out _ _ (hSC _ x0 _ _) (fun hHeld => ?_)
  clear hK K
  refine wpAnyH_take (i := 12) (oi := { dst := some 20, op := Op.fieldAddr 64 (Operand.tmp 3) 0, type := 0, pos := "plant.go:165", after := #[{ on := 0, ground := Ground.phase }, { on := 1, ground := Ground.phase }, { on := 2, ground := Ground.phase }, { on := 3, ground := Ground.phase }, { on := 4, ground := Ground.phase }, { on := 5, ground := Ground.phase }, { on := 6, ground := Ground.phase }, { on := 7, ground := Ground.phase }, { on := 8, ground := Ground.phase }, { on := 9, ground := Ground.phase }, { on := 10, ground := Ground.phase }, { on := 11, ground := Ground.phase }], guard := none }) (v := ?_) rfl (by kernel_rfl) (by kernel_rfl) (by kernel_rfl) (fun _ _ _ h => h) (Or.inl ⟨by rfl, ?hyr2_47⟩) (by assumption) ?restr2_47
  case hyr2_47 => (intro w hSw; (try dsimp only at hSw); go_simp; try with_reducible rfl)
  try simp only [Act.put, List.setIfInBounds_toArray, List.set_cons_zero, List.set_cons_succ]
  refine wpAnyH_ready (rs := [13]) (by kernel_rfl) (by simp) (AllReadyH.cons (o := { dst := none, op := Op.store 61 (Operand.tmp 20) (Operand.tmp 18), type := 0, pos := "plant.go:165", after := #[{ on := 12, ground := Ground.data }, { on := 9, ground := Ground.data }, { on := 11, ground := Ground.chain }, { on := 0, ground := Ground.phase }, { on := 1, ground := Ground.phase }, { on := 2, ground := Ground.phase }, { on := 3, ground := Ground.phase }, { on := 4, ground := Ground.phase }, { on := 5, ground := Ground.phase }, { on := 6, ground := Ground.phase }, { on := 7, ground := Ground.phase }, { on := 8, ground := Ground.phase }, { on := 9, ground := Ground.phase }, { on := 10, ground := Ground.phase }, { on := 11, ground := Ground.phase }], guard := none }) rfl (fun K hK => ?_) AllReadyH.nil)
  refine step_nov rfl (exec_store 61 (.tmp 20) (.tmp 18) rfl ⟨w.heap.size, 0, none⟩ rfl v0' rfl (run_storeVar_cell (by kernel_rfl) x4 x5 x6)) ?_
  refine hK.out _ _ (hSD _ x0 _ _ _ _) (fun hHeld => ?_)
  clear hK K
  refine wpAnyH_done (by kernel_rfl) ?_ _
  clear hb1 hk1 hbel1 hb0 hk0 hbel0 x0 x1 x2 x3 x4 x5 x6
  obtain ⟨dk', cd', rfl, hcp⟩ := x7.out
  clear c0 c1 c2 c3 c4
  have hcp0 := Lib.hid hcp
  obtain ⟨_, _, hbel5, hq5, _⟩ := hcp
  have g5 := (hSW _ hbel5).1
  have HQ5 := Lib.hid hq5
  clear hq5 hbel5
  go_wp2_with fail
  go_loopw [26] (fun k wr => ∃ (j : Nat) (ms' : List Nat), j ≤ most.length ∧ k = .int .i64 j ∧ Copying w most ms l off fuse steps w.heap.size dk' cd' v1' j ms' wr) (fun k _ => most.length - (intOf k).toNat)
  case atStart => exact ⟨0, ms, by omega, rfl, hcp0.out⟩
  case round =>
    obtain ⟨j, ms', hj, rfl, hcp⟩ := hrel
    have HCP := Lib.hid hcp
    obtain ⟨hml, hdr, hbel, hq, hb1, hb0, hmp, hnd, hge⟩ := hcp
    by_cases hlt : j < most.length
    · have hjm : j < ms.length := by omega
      have hdc := dkL_at most ms j hlt hjm
      obtain ⟨es, cl, hes⟩ := hmap ms[j] (by simp)
      obtain ⟨m, hm⟩ : ∃ m, m = ms[j] := ⟨_, rfl⟩
      rw [← hm] at hdc hes
      obtain ⟨nj, hnj⟩ : ∃ nj, nj = most[j] := ⟨_, rfl⟩
      rw [← hnj] at hdc
      have hbdr := hbd.kept (w' := wr) fun k hk => hbel.block k (hbd.lt k hk)
      have ca : wr.cell? ⟨dk, j * 2, none⟩ = some (.int .i64 nj) := by have := Buf.cellsAt hbdr rfl _ _ hdc.1; rwa [addr0] at this
      have cb : wr.cell? ⟨dk, j * 2 + 1, none⟩ = some (.map (some m)) := by have := Buf.cellsAt hbdr rfl _ _ hdc.2; rwa [addr0] at this
      have HM := Lib.hid (show m = ms[j] ∧ nj = most[j] from ⟨hm, hnj⟩)
      have HES := Lib.hid hes
      clear hm hnj hdc hes
      have HQ := Lib.hid hq
      have HML := Lib.hid hml
      have HDR := Lib.hid hdr
      clear hml hdr hq
      have hji : (j : Int) < (most.length : Int) := by omega
      have hj0 : 0 ≤ (j : Int) := by omega
      have hws := hbel.size
      have hql := HQ.out.lt
      have upa : ∀ {k : Nat}, k < wr.heap.size → ((wr.alloc (.cells #[.int .i64 nj, .map (some m)] 67)).drew.alloc (.map es cl)).heap[k]? = wr.heap[k]? := fun hk => (Below.heap_alloc _ _ _ (by simp; omega)).trans (Below.heap_alloc wr _ _ hk)
      have hdkr : dk' < wr.heap.size := hb0.lt dk' (by
        obtain ⟨_, _, hv, h1, _⟩ := hb0.shape
        simp at hv
        simp [bufBlock]
        omega)
      have hnd' := hnd
      simp only [List.nodup_cons, List.mem_cons, List.mem_append, not_or] at hnd'
      have box : (wr.alloc (.cells #[.int .i64 nj, .map (some m)] 67)).drew.heap[wr.heap.size]? = some (.cells #[.int .i64 nj, .map (some m)] 67 (0, 0)) := heap_alloc_last _ _
      have box2 : ((wr.alloc (.cells #[.int .i64 nj, .map (some m)] 67)).drew.alloc (.map es cl)).heap[wr.heap.size]? = some (.cells #[.int .i64 nj, .map (some m)] 67 (0, 0)) := (Below.heap_alloc _ _ _ (by simp)).trans box
      have z0 : (wr.alloc (.cells #[.int .i64 nj, .map (some m)] 67)).drew.cell? ⟨w.heap.size, 0, none⟩ = some (.slice (some ⟨dk', 0, none⟩) most.length cd') ∧ (wr.alloc (.cells #[.int .i64 nj, .map (some m)] 67)).drew.cell? ⟨wr.heap.size, 1, none⟩ = some (.map (some m)) :=
        ⟨(World.cell?_of_block (w := wr) (a := ⟨w.heap.size, 0, none⟩) (Below.heap_alloc wr _ _ hql)).trans HQ.out.cells.1.1, (cells_at box 1).trans rfl⟩
      have z1 : ((wr.alloc (.cells #[.int .i64 nj, .map (some m)] 67)).drew.alloc (.map es cl)).cell? ⟨w.heap.size, 0, none⟩ = some (.slice (some ⟨dk', 0, none⟩) most.length cd') ∧ ((wr.alloc (.cells #[.int .i64 nj, .map (some m)] 67)).drew.alloc (.map es cl)).cell? ⟨wr.heap.size, 1, none⟩ = some (.map (some m)) :=
        ⟨(World.cell?_of_block (w := wr) (a := ⟨w.heap.size, 0, none⟩) (upa hql)).trans HQ.out.cells.1.1, (cells_at box2 1).trans rfl⟩
      have z2 : ∀ u : Value, (((wr.alloc (.cells #[.int .i64 nj, .map (some m)] 67)).drew.alloc (.map es cl)).setCell ⟨dk', j * 2 + 1, none⟩ u).cell? ⟨w.heap.size, 0, none⟩ = some (.slice (some ⟨dk', 0, none⟩) most.length cd') ∧ (((wr.alloc (.cells #[.int .i64 nj, .map (some m)] 67)).drew.alloc (.map es cl)).setCell ⟨dk', j * 2 + 1, none⟩ u).cell? ⟨wr.heap.size, 1, none⟩ = some (.map (some m)) := fun u =>
        ⟨(World.cell?_of_block (a := ⟨w.heap.size, 0, none⟩) (Below.heap_setCell _ _ _ _ (fun e => hnd'.1.1 e))).trans z1.1, (World.cell?_of_block (a := ⟨wr.heap.size, 1, none⟩) (Below.heap_setCell _ _ _ _ (by simp; omega))).trans z1.2⟩
      have hb0a := hb0.kept (w' := ((wr.alloc (.cells #[.int .i64 nj, .map (some m)] 67)).drew.alloc (.map es cl))) fun k hk => upa (hb0.lt k hk)
      have z3 : ((wr.alloc (.cells #[.int .i64 nj, .map (some m)] 67)).drew.alloc (.map es cl)).cell? ⟨dk', j * 2 + 1, none⟩ = some (.map (some (ms'[j]'(by rw [HML.out]; exact hlt)))) := by
        have := Buf.cellsAt hb0a rfl _ _ (dkL_at most ms' j hlt (by rw [HML.out]; exact hlt)).2
        rwa [addr0] at this
      have z4 : ((wr.alloc (.cells #[.int .i64 nj, .map (some m)] 67)).drew.alloc (.map es cl)).frozen? ⟨dk', j * 2 + 1, none⟩ = false := Buf.frozen hb0a (by omega) _
      have hes' : (wr.alloc (.cells #[.int .i64 nj, .map (some m)] 67)).drew.heap[m]? = some (.map es cl) := by
        have hm := HES.out
        have hlt' : m < w.heap.size := (Array.getElem?_eq_some_iff.1 hm).1
        exact (Below.heap_alloc wr _ _ (by omega)).trans ((hbel.block m hlt').trans hm)
      have szm : (wr.alloc (.cells #[.int .i64 nj, .map (some m)] 67)).drew.heap.size = wr.heap.size + 1 := by simp
      have hml := HML.out
      have hjm' : j < ms'.length := by omega
      have REL : Hid (Copying w most ms l off fuse steps w.heap.size dk' cd' v1' (j + 1) (ms'.set j (wr.alloc (.cells #[.int .i64 nj, .map (some m)] 67)).drew.heap.size) (((wr.alloc (.cells #[.int .i64 nj, .map (some m)] 67)).drew.alloc (.map es cl)).setCell ⟨dk', j * 2 + 1, none⟩ (.map (some (wr.alloc (.cells #[.int .i64 nj, .map (some m)] 67)).drew.heap.size)))) := by
        rw [szm]
        have htk : (ms'.set j (wr.heap.size + 1)).take (j + 1) = ms'.take j ++ [wr.heap.size + 1] := by
          rw [List.take_set, List.take_succ_eq_append_getElem hjm', List.set_append_right _ _ (by rw [List.length_take]; omega), List.length_take]
          have : j - min j ms'.length = 0 := by omega
          rw [this]
          rfl
        have hall : ∀ k ∈ w.heap.size :: dk' :: ((bufBlock v1').toList ++ ms'.take j), k < wr.heap.size := by
          intro k hk
          simp only [List.mem_cons, List.mem_append, Option.mem_toList] at hk
          rcases hk with rfl | rfl | hk | hk
          · exact hql
          · exact hdkr
          · exact hb1.lt k hk
          · obtain ⟨i, hi, rfl⟩ := List.getElem_of_mem hk
            rw [List.getElem_take]
            rw [List.length_take] at hi
            exact (hmp i (by omega) (by omega) (by omega)).2
        refine Lib.hid ⟨by rw [List.length_set]; exact hml, ?_, ?_, HQ.out.kept ((Below.heap_setCell _ _ _ _ (fun e => hnd'.1.1 e)).trans (upa hql)), ?_, ?_, ?_, ?_, ?_⟩
        · rw [List.drop_set, if_pos (by omega)]
          have := congrArg (List.drop 1) HDR.out
          simpa using this
        · exact ((hbel.trans ((((Below.refl _ wr).alloc hws _).drew).alloc (by simp; omega) _))).setCell (p := ⟨dk', j * 2 + 1, none⟩) (hge dk' (by simp)) _
        · exact hb1.kept fun k hk => (Below.heap_setCell _ _ _ _ (fun e => hnd'.2.1.1 (by rw [← show k = dk' from e]; simp [hk]))).trans (upa (hb1.lt k hk))
        · rw [← dkL_set most ms' hml j _ hlt]
          exact Buf.set1 hb0a (by omega) _
        · intro i hi h' h''
          by_cases e : i = j
          · subst e
            simp only [List.getElem_set_self]
            refine ⟨?_, by simp [World.setCell]⟩
            rw [Below.heap_setCell _ _ _ _ (by simp; omega), ← HM.out.1, HES.out]
            have := heap_alloc_last (wr.alloc (.cells #[.int .i64 nj, .map (some m)] 67)).drew (.map es cl)
            rw [szm] at this
            exact this
          · have hi' : i < ms'.length := by rwa [List.length_set] at h'
            have := hmp i (by omega) hi' h''
            rw [List.getElem_set_ne (by omega)]
            refine ⟨?_, by simp [World.setCell]; omega⟩
            rw [Below.heap_setCell _ _ _ _ ?_, upa this.2, this.1]
            intro e2
            refine hnd'.2.1.2 ?_
            rw [← show ms'[i] = dk' from e2]
            exact List.mem_take_iff_getElem.2 ⟨i, by omega, rfl⟩
        · rw [htk]
          have : w.heap.size :: dk' :: ((bufBlock v1').toList ++ (ms'.take j ++ [wr.heap.size + 1])) = (w.heap.size :: dk' :: ((bufBlock v1').toList ++ ms'.take j)) ++ [wr.heap.size + 1] := by simp
          rw [this]
          refine List.nodup_append.2 ⟨hnd, by simp, fun a ha b hb e => ?_⟩
          simp at hb
          have := hall a ha
          omega
        · intro k hk
          rw [htk] at hk
          have : k ∈ w.heap.size :: dk' :: ((bufBlock v1').toList ++ ms'.take j) ∨ k = wr.heap.size + 1 := by
            simp only [List.mem_cons, List.mem_append, List.not_mem_nil, or_false] at hk ⊢
            rcases hk with h | h | h | h | h
            · exact .inl (.inl h)
            · exact .inl (.inr (.inl h))
            · exact .inl (.inr (.inr (.inl h)))
            · exact .inl (.inr (.inr (.inr h)))
            · exact .inr h
          rcases this with h | h
          · exact hge k h
          · omega
      have EW : ∀ v : Value, ((wr.alloc (.cells #[.int .i64 nj, .map (some m)] 67)).drew.alloc (.map es cl)).setCell ⟨dk', j * 2 + 1, none⟩ v = (((wr.setCell ⟨dk', j * 2 + 1, none⟩ v).alloc (.cells #[.int .i64 nj, .map (some m)] 67)).alloc (.map es cl)).drew := fun v => by
        rw [World.alloc_drew, World.setCell_drew, World.setCell_alloc_past _ _ _ _ (by simp; omega), World.setCell_alloc_past _ _ _ _ hdkr]
      have REL2 := REL.out
      rw [EW, szm] at REL2
      have REL3 := Lib.hid REL2
      clear EW REL2
      have z2 := z2 (.map (some (wr.alloc (.cells #[.int .i64 nj, .map (some m)] 67)).drew.heap.size))
      clear hb0a box box2 upa hnd' hml szm hws
      go_wp2_with fail
      refine wp_region_held_drew (S := (fun W => W.cell? ⟨w.heap.size, 0, none⟩ = some (.slice (some ⟨dk', 0, none⟩) most.length cd') ∧ W.cell? ⟨wr.heap.size, 1, none⟩ = some (.map (some m)))) (by kernel_rfl) (z0) (fun hHeld => ?_)
      refine wpAnyH_take (i := 0) (oi := { dst := some 31, op := Op.fieldAddr 64 (Operand.tmp 3) 0, type := 0, pos := "plant.go:167", after := #[], guard := none }) (v := ?_) rfl (by kernel_rfl) (by kernel_rfl) (by kernel_rfl) (fun _ _ _ h => h) (Or.inl ⟨by rfl, ?hyr6_1⟩) (by assumption) ?restr6_1
      case hyr6_1 => (intro w hSw; (try dsimp only at hSw); go_simp; try with_reducible rfl)
      try simp only [Act.put, List.setIfInBounds_toArray, List.set_cons_zero, List.set_cons_succ]
      refine wpAnyH_take (i := 1) (oi := { dst := some 32, op := Op.load 61 (Operand.tmp 31), type := 61, pos := "plant.go:167", after := #[{ on := 0, ground := Ground.data }], guard := none }) (v := ?_) rfl (by kernel_rfl) (by kernel_rfl) (by kernel_rfl) (fun _ _ _ h => h) (Or.inl ⟨by rfl, ?hyr6_4⟩) (by assumption) ?restr6_4
      case hyr6_4 => (intro w hSw; (try dsimp only at hSw); go_simp; try with_reducible rfl)
      try simp only [Act.put, List.setIfInBounds_toArray, List.set_cons_zero, List.set_cons_succ]
      refine wpAnyH_take (i := 2) (oi := { dst := some 33, op := Op.move (Operand.tmp 4), type := 3, pos := "plant.go:167", after := #[], guard := none }) (v := ?_) rfl (by kernel_rfl) (by kernel_rfl) (by kernel_rfl) (fun _ _ _ h => h) (Or.inl ⟨by rfl, ?hyr6_7⟩) (by assumption) ?restr6_7
      case hyr6_7 => (intro w hSw; (try dsimp only at hSw); go_simp; try with_reducible rfl)
      try simp only [Act.put, List.setIfInBounds_toArray, List.set_cons_zero, List.set_cons_succ]
      refine wpAnyH_take (i := 3) (oi := { dst := some 34, op := Op.fieldAddr 67 (Operand.tmp 5) 1, type := 0, pos := "plant.go:167", after := #[], guard := none }) (v := ?_) rfl (by kernel_rfl) (by kernel_rfl) (by kernel_rfl) (fun _ _ _ h => h) (Or.inl ⟨by rfl, ?hyr6_10⟩) (by assumption) ?restr6_10
      case hyr6_10 => (intro w hSw; (try dsimp only at hSw); go_simp; try with_reducible rfl)
      try simp only [Act.put, List.setIfInBounds_toArray, List.set_cons_zero, List.set_cons_succ]
      refine wpAnyH_take (i := 4) (oi := { dst := some 35, op := Op.load 65 (Operand.tmp 34), type := 65, pos := "plant.go:167", after := #[{ on := 3, ground := Ground.data }], guard := none }) (v := ?_) rfl (by kernel_rfl) (by kernel_rfl) (by kernel_rfl) (fun _ _ _ h => h) (Or.inl ⟨by rfl, ?hyr6_13⟩) (by assumption) ?restr6_13
      case hyr6_13 => (intro w hSw; (try dsimp only at hSw); go_simp; try with_reducible rfl)
      try simp only [Act.put, List.setIfInBounds_toArray, List.set_cons_zero, List.set_cons_succ]
      refine wpAnyH_ready (rs := [5]) (by kernel_rfl) (by simp) (AllReadyH.cons (o := { dst := some 36, op := Op.call { callee := Callee.value (Operand.func 39), args := #[Operand.tmp 35], argTypes := #[65] }, type := 65, pos := "plant.go:167", after := #[{ on := 4, ground := Ground.data }], guard := none }) rfl (fun K hK => ?_) AllReadyH.nil)
      go_simp
      refine (maps_clone hes').mono ?_
      rintro e w3 ⟨rfl, rfl⟩
      refine hK.out _ _ (z1) (fun hHeld => ?_)
      clear hK K
      try simp only [Act.put, List.setIfInBounds_toArray, List.set_cons_zero, List.set_cons_succ]
      refine wpAnyH_take (i := 6) (oi := { dst := some 37, op := Op.indexAddr 61 (Operand.tmp 32) (Operand.tmp 33), type := 0, pos := "plant.go:167", after := #[{ on := 1, ground := Ground.data }, { on := 2, ground := Ground.data }, { on := 0, ground := Ground.phase }, { on := 1, ground := Ground.phase }, { on := 2, ground := Ground.phase }, { on := 3, ground := Ground.phase }, { on := 4, ground := Ground.phase }, { on := 5, ground := Ground.phase }], guard := none }) (v := ?_) rfl (by kernel_rfl) (by kernel_rfl) (by kernel_rfl) (fun _ _ _ h => h) (Or.inl ⟨by rfl, ?hyr6_23⟩) (by assumption) ?restr6_23
      case hyr6_23 => (intro w hSw; (try dsimp only at hSw); go_simp; try with_reducible rfl)
      try simp only [Act.put, List.setIfInBounds_toArray, List.set_cons_zero, List.set_cons_succ]
      refine wpAnyH_take (i := 7) (oi := { dst := some 38, op := Op.fieldAddr 67 (Operand.tmp 37) 1, type := 0, pos := "plant.go:167", after := #[{ on := 6, ground := Ground.data }, { on := 0, ground := Ground.phase }, { on := 1, ground := Ground.phase }, { on := 2, ground := Ground.phase }, { on := 3, ground := Ground.phase }, { on := 4, ground := Ground.phase }, { on := 5, ground := Ground.phase }], guard := none }) (v := ?_) rfl (by kernel_rfl) (by kernel_rfl) (by kernel_rfl) (fun _ _ _ h => h) (Or.inl ⟨by rfl, ?hyr6_26⟩) (by assumption) ?restr6_26
      case hyr6_26 => (intro w hSw; (try dsimp only at hSw); go_simp; try with_reducible rfl)
      try simp only [Act.put, List.setIfInBounds_toArray, List.set_cons_zero, List.set_cons_succ]
      refine wpAnyH_ready (rs := [8]) (by kernel_rfl) (by simp) (AllReadyH.cons (o := { dst := none, op := Op.store 65 (Operand.tmp 38) (Operand.tmp 36), type := 0, pos := "plant.go:167", after := #[{ on := 7, ground := Ground.data }, { on := 5, ground := Ground.data }, { on := 5, ground := Ground.chain }, { on := 0, ground := Ground.phase }, { on := 1, ground := Ground.phase }, { on := 2, ground := Ground.phase }, { on := 3, ground := Ground.phase }, { on := 4, ground := Ground.phase }, { on := 5, ground := Ground.phase }], guard := none }) rfl (fun K hK => ?_) AllReadyH.nil)
      refine step_nov rfl (exec_store 65 (.tmp 38) (.tmp 36) rfl ⟨dk', j * 2 + 1, none⟩ rfl (.map (some (wr.alloc (.cells #[.int .i64 nj, .map (some m)] 67)).drew.heap.size)) rfl (run_storeVar_cell (by kernel_rfl) z3 z4 rfl)) ?_
      refine hK.out _ _ (z2) (fun hHeld => ?_)
      clear hK K
      refine wpAnyH_done (by kernel_rfl) ?_ _
      clear z0 z1 z2 z3 z4 hes'
      go_wp2_with fail
      go_roundw
      case rel => exact ⟨j + 1, _, by omega, by go_num, REL3.out⟩
      case measure => simp [intOf]; omega
    · obtain rfl : j = most.length := by omega
      clear hml hdr hbel hq hb1 hb0 hmp hnd hge
      go_wp2_with fail
      go_ret
      exact ⟨_, _, _, _, _, rfl, HCP.out⟩
theorem clone_any {w : World} {g : Nat} {p : PS} {O : List Nat} (h : IsP w g p O) (hst : p.steps < 1099511627776) :
    Calls Try.prog 22 #[.pointer (some ⟨g, 0, none⟩)] w fun e w' => ∃ q O', e = .returned (.pointer (some ⟨q, 0, none⟩)) ∧ IsP w' q p O' ∧ Below w.heap.size w w' ∧ ∀ k ∈ O', w.heap.size ≤ k := by
  obtain ⟨hok, dk, cd, D, v1, ms, h1, h2, h3, h4, h5, h6, h7, h8, rfl, h10⟩ := h
  have hd := hok.disks
  have hlen : p.waits.length < 1099511627776 := by
    obtain ⟨_, _, s, f, _, hs, _⟩ := h7 0 hd.1 (by omega)
    omega
  have hxs : D.toList.take (p.most.length * 2) = dkL p.most ms := by
    refine dkL_eq p.most ms h6 _ (by rw [List.length_take, Array.length_toList]; omega) fun i hi hi' => ?_
    obtain ⟨x1, x2, _⟩ := h7 i hi hi'
    rw [List.getElem?_take, if_pos (by omega), List.getElem?_take, if_pos (by omega), Array.getElem?_toList, Array.getElem?_toList]
    exact ⟨x1, x2⟩
  refine (clone_in h1 h6 hd ⟨dkL_len _ _ h6, .inr ⟨dk, cd, D, rfl, h4, h2, by omega, h3, h5, hxs⟩⟩ p.waits h8 hlen (fun m hm => ?_)).mono ?_
  · obtain ⟨i, hi, rfl⟩ := List.getElem_of_mem hm
    obtain ⟨_, _, s, f, ⟨_, ⟨es, cl, he, _⟩, _⟩, _⟩ := h7 i (by omega) hi
    exact ⟨es, cl, he⟩
  · rintro e w' ⟨q, dk', cd', v1', ms', rfl, k1, k2, k3, k4, k5, ⟨k6, ⟨k7, _⟩ | ⟨dk2, cap, D', hv, r1, r2, r3, r4, r5, r6⟩⟩, k8, k9, k10⟩
    · omega
    · simp at hv
      obtain ⟨rfl, rfl⟩ := hv
      have ht : ms'.take p.most.length = ms' := by rw [← k1, List.take_length]
      rw [ht] at k9 k10
      refine ⟨q, _, rfl, ⟨hok, dk', cd', D', v1', ms', k4, r2, r4, r1, r5, k1, fun i hi hi' => ?_, k5, rfl, k9⟩, k3, k10⟩
      obtain ⟨_, _, s, f, c, y1, y2⟩ := h7 i hi (by omega)
      have ha := dkL_at p.most ms' i hi hi'
      exact ⟨(take_get r6 (by omega)).trans ha.1, (take_get r6 (by omega)).trans ha.2, s, f, c.copy (k8 i hi hi' (by omega)).1, y1, y2⟩
end Go.Proofs.Ytpnijopbbbgffaa.plantw
