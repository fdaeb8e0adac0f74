/- Walks of layer 3: a plant's block; step, On, Steps, Fuse. Conditions: as each theorem says. -/
import Derived.Test.YtpnijopbbbgffaaChecked
import Derived.WalkKit
import Derived.LoopTactic
import Derived.Deep.LoopGhost
import Derived.WalkSpells
import Derived.WalkLawsBesides
import Derived.Lib.Hide
import Derived.Outline
import Derived.KernelRfl
namespace Go.Proofs.Ytpnijopbbbgffaa.plantw
open Go.RowKit

/-- The world is as it was, but for one block. -/
structure Touch (b : Nat) (w w' : World) : Prop where
  os : w'.os = w.os
  tape : w'.tape = w.tape
  output : w'.output = w.output
  size : w.heap.size ≤ w'.heap.size
  block : ∀ k, k < w.heap.size → k ≠ b → w'.heap[k]? = w.heap[k]?
theorem Touch.refl (b : Nat) (w : World) : Touch b w w := ⟨rfl, rfl, rfl, Nat.le_refl _, fun _ _ _ => rfl⟩
theorem Touch.trans {b : Nat} {a w w' : World} (h : Touch b a w) (k : Touch b w w') : Touch b a w' :=
  ⟨k.os.trans h.os, k.tape.trans h.tape, k.output.trans h.output, Nat.le_trans h.size k.size, fun i hi hb => (k.block i (Nat.lt_of_lt_of_le hi h.size) hb).trans (h.block i hi hb)⟩
theorem Touch.set {b : Nat} {a w : World} (h : Touch b a w) (j : Nat) (u : Value) : Touch b a (w.setCell ⟨b, j, none⟩ u) :=
  h.trans ⟨rfl, rfl, rfl, by simp [World.setCell], fun k _ hb => Below.heap_setCell _ _ _ _ hb⟩
theorem Touch.drew {b : Nat} {a w : World} (h : Touch b a w) : Touch b a w.drew := ⟨h.os, h.tape, h.output, h.size, h.block⟩
/-- A plant's own block: its disks, what waits, is it off, the fuse, the steps. -/
def Blk (w : World) (g : Nat) (v0 v1 : Value) (off : Bool) (fuse steps : Int) : Prop :=
  w.heap[g]? = some (.cells #[v0, v1, .bool off, .int .i64 fuse, .int .i64 steps] 64 (0, 0))
theorem Blk.cells {w : World} {g : Nat} {v0 v1 : Value} {off : Bool} {fuse steps : Int} (h : Blk w g v0 v1 off fuse steps) :
    (w.cell? ⟨g, 0, none⟩ = some v0 ∧ w.cell? ⟨g, 1, none⟩ = some v1 ∧ w.cell? ⟨g, 2, none⟩ = some (.bool off) ∧ w.cell? ⟨g, 3, none⟩ = some (.int .i64 fuse) ∧ w.cell? ⟨g, 4, none⟩ = some (.int .i64 steps)) ∧
    (w.frozen? ⟨g, 0, none⟩ = false ∧ w.frozen? ⟨g, 1, none⟩ = false ∧ w.frozen? ⟨g, 2, none⟩ = false ∧ w.frozen? ⟨g, 3, none⟩ = false ∧ w.frozen? ⟨g, 4, none⟩ = false) := by
  unfold Blk at h
  unfold World.cell? World.frozen?
  rw [h]
  exact ⟨⟨rfl, rfl, rfl, rfl, rfl⟩, ⟨rfl, rfl, rfl, rfl, rfl⟩⟩
theorem heap_set {w : World} {g : Nat} {cs : Array Value} {T : TypeId} {fr : Nat × Nat} (h : w.heap[g]? = some (.cells cs T fr)) (j : Nat) (u : Value) : (w.setCell ⟨g, j, none⟩ u).heap[g]? = some (.cells (cs.setIfInBounds j u) T fr) := by
  unfold World.setCell
  simp [h, Array.getElem?_modify]
theorem Blk.off {w : World} {g : Nat} {v0 v1 : Value} {off : Bool} {fuse steps : Int} (h : Blk w g v0 v1 off fuse steps) (x : Bool) : Blk (w.setCell ⟨g, 2, none⟩ (.bool x)) g v0 v1 x fuse steps := by
  have := heap_set h 2 (.bool x)
  simpa [Blk] using this
theorem Blk.fuse {w : World} {g : Nat} {v0 v1 : Value} {off : Bool} {fuse steps : Int} (h : Blk w g v0 v1 off fuse steps) (x : Int) : Blk (w.setCell ⟨g, 3, none⟩ (.int .i64 x)) g v0 v1 off x steps := by
  have := heap_set h 3 (.int .i64 x)
  simpa [Blk] using this
theorem Blk.steps {w : World} {g : Nat} {v0 v1 : Value} {off : Bool} {fuse steps : Int} (h : Blk w g v0 v1 off fuse steps) (x : Int) : Blk (w.setCell ⟨g, 4, none⟩ (.int .i64 x)) g v0 v1 off fuse x := by
  have := heap_set h 4 (.int .i64 x)
  simpa [Blk] using this
theorem Blk.waits {w : World} {g : Nat} {v0 v1 : Value} {off : Bool} {fuse steps : Int} (h : Blk w g v0 v1 off fuse steps) (x : Value) : Blk (w.setCell ⟨g, 1, none⟩ x) g v0 x off fuse steps := by
  have := heap_set h 1 x
  simpa [Blk] using this
theorem Blk.disks {w : World} {g : Nat} {v0 v1 : Value} {off : Bool} {fuse steps : Int} (h : Blk w g v0 v1 off fuse steps) (x : Value) : Blk (w.setCell ⟨g, 0, none⟩ x) g x v1 off fuse steps := by
  have := heap_set h 0 x
  simpa [Blk] using this
theorem on_any {w : World} {g : Nat} {v0 v1 : Value} {off : Bool} {fuse steps : Int} (h : Blk w g v0 v1 off fuse steps) :
    Calls Try.prog 24 #[.pointer (some ⟨g, 0, none⟩)] w fun e w' => e = .returned (.bool (!off)) ∧ w' = w := by
  obtain ⟨⟨c0, c1, c2, c3, c4⟩, _⟩ := h.cells
  go_enter Try.func24, Try.ntmps24
  go_wp2_with fail
  go_ret
  exact ⟨rfl, rfl⟩
theorem steps_any {w : World} {g : Nat} {v0 v1 : Value} {off : Bool} {fuse steps : Int} (h : Blk w g v0 v1 off fuse steps) :
    Calls Try.prog 16 #[.pointer (some ⟨g, 0, none⟩)] w fun e w' => e = .returned (.int .i64 steps) ∧ w' = w := by
  obtain ⟨⟨c0, c1, c2, c3, c4⟩, _⟩ := h.cells
  go_enter Try.func16, Try.ntmps16
  go_wp2_with fail
  go_ret
  exact ⟨rfl, rfl⟩
theorem step_any {w : World} {g : Nat} {v0 v1 : Value} {off : Bool} {fuse steps : Int} (h : Blk w g v0 v1 off fuse steps) (hf : -1 ≤ fuse ∧ fuse ≤ 9223372036854775807) (hs : 0 ≤ steps ∧ steps < 9223372036854775807) :
    Calls Try.prog 33 #[.pointer (some ⟨g, 0, none⟩)] w fun e w' =>
      e = .returned (.bool (fuse != 0)) ∧ Touch g w w' ∧ (if fuse = 0 then Blk w' g v0 v1 true (-1) steps else Blk w' g v0 v1 off (if 0 < fuse then fuse - 1 else fuse) (steps + 1)) := by
  obtain ⟨⟨c0, c1, c2, c3, c4⟩, ⟨z0, z1, z2, z3, z4⟩⟩ := h.cells
  have hw1 : IntKind.i64.wrap (steps + 1) = steps + 1 := IntWalk.i64_in _ (by omega)
  have hw2 : IntKind.i64.wrap (fuse - 1) = fuse - 1 := IntWalk.i64_in _ (by omega)
  have HB := Lib.hid h
  clear h
  by_cases h0 : fuse = 0
  · subst h0
    go_enter Try.func33, Try.ntmps33
    go_wp2_with fail
    go_ret
    exact ⟨rfl, ((Touch.refl g w).set 2 _).set 3 _, (HB.out.off true).fuse (-1)⟩
  · have h0' : (fuse == 0) = false := by simpa using h0
    have hne : (fuse != 0) = true := by simpa using h0
    by_cases h1 : 0 < fuse
    · go_enter Try.func33, Try.ntmps33
      go_wp2_with fail
      go_ret
      exact ⟨by first | rfl | simp [hne], ((Touch.refl g w).set 3 _).set 4 _, (HB.out.fuse (fuse - 1)).steps (steps + 1)⟩
    · go_enter Try.func33, Try.ntmps33
      go_wp2_with fail
      go_ret
      exact ⟨by first | rfl | simp [hne], (Touch.refl g w).set 4 _, HB.out.steps (steps + 1)⟩
theorem fuse_any {w : World} {g : Nat} {v0 v1 : Value} {off : Bool} {fuse steps : Int} (h : Blk w g v0 v1 off fuse steps) (n : Int) :
    Calls Try.prog 23 #[.pointer (some ⟨g, 0, none⟩), .int .i64 n] w fun e w' => e = .returned (.tuple #[]) ∧ Touch g w w' ∧ Blk w' g v0 v1 off (if off = true then fuse else max n (-1)) steps := by
  obtain ⟨⟨c0, c1, c2, c3, c4⟩, ⟨z0, z1, z2, z3, z4⟩⟩ := h.cells
  have HB := Lib.hid h
  clear h
  cases off with
  | true =>
    go_enter Try.func23, Try.ntmps23
    go_wp2_with fail
    go_end0
    exact ⟨rfl, Touch.refl g w, HB.out⟩
  | false =>
    go_enter Try.func23, Try.ntmps23
    go_wp2_with fail
    · rename_i hn
      have e : max n (-1) = -1 := by omega
      go_end0
      exact ⟨rfl, (Touch.refl g w).set 3 _, by rw [e]; exact HB.out.fuse (-1)⟩
    · rename_i hn
      have e : max n (-1) = n := by omega
      go_end0
      exact ⟨rfl, (Touch.refl g w).set 3 _, by rw [e]; exact HB.out.fuse n⟩
/-- A plant's disks: how many sectors each has, and the block of its map. -/
def Disks (w : World) (v0 : Value) (most ms : List Nat) : Prop :=
  most.length = ms.length ∧ ∃ dk cd, v0 = .slice (some ⟨dk, 0, none⟩) most.length cd ∧ most.length ≤ cd ∧
    ∀ i (h : i < most.length) (h' : i < ms.length), w.cell? ⟨dk, i * 2, none⟩ = some (.int .i64 most[i]) ∧ w.cell? ⟨dk, i * 2 + 1, none⟩ = some (.map (some ms[i]))
theorem len_any {w : World} {g : Nat} {v0 v1 : Value} {off : Bool} {fuse steps : Int} {most ms : List Nat} (h : Blk w g v0 v1 off fuse steps) (hd : Disks w v0 most ms) (dev : Int) :
    Calls Try.prog 20 #[.pointer (some ⟨g, 0, none⟩), .int .i64 dev] w fun e w' => e = .returned (.tuple #[.int .i64 (if dev < 0 ∨ (most.length : Int) ≤ dev then 0 else (most.getD dev.toNat 0 : Nat)), .int .i64 (if dev < 0 ∨ (most.length : Int) ≤ dev then 31 else 0)]) ∧ w' = w := by
  obtain ⟨⟨c0, c1, c2, c3, c4⟩, _⟩ := h.cells
  obtain ⟨hml, dk, cd, rfl, hcd, hcells⟩ := hd
  by_cases hr : dev < 0 ∨ (most.length : Int) ≤ dev
  · rw [if_pos hr, if_pos hr]
    rcases hr with hr | hr
    · go_enter Try.func20, Try.ntmps20
      go_wp2_with fail
      go_ret2
      exact ⟨rfl, rfl⟩
    · by_cases h0 : dev < 0
      · go_enter Try.func20, Try.ntmps20
        go_wp2_with fail
        go_ret2
        exact ⟨rfl, rfl⟩
      · go_enter Try.func20, Try.ntmps20
        go_wp2_with fail
        go_ret2
        exact ⟨rfl, rfl⟩
  · rw [if_neg hr, if_neg hr]
    obtain ⟨i, rfl⟩ : ∃ i : Nat, dev = (i : Int) := ⟨dev.toNat, by omega⟩
    have hi : i < most.length := by omega
    obtain ⟨k0, k1⟩ := hcells i hi (by omega)
    have e : most.getD ((i : Int)).toNat 0 = most[i] := by simp [hi]
    rw [e]
    clear e
    have h1 : ¬ (i : Int) < 0 := by omega
    have h2 : ¬ ((most.length : Int) ≤ (i : Int)) := by omega
    have h3 : (i : Int) < (most.length : Int) := by omega
    clear k1
    generalize most[i] = m at k0
    clear hml hcells hr
    go_enter Try.func20, Try.ntmps20
    go_wp2_with fail
    go_ret2
    exact ⟨rfl, rfl⟩
/-- Is there such a sector? -/
def thereB (most : List Nat) (dev place : Int) : Bool := decide (0 ≤ dev ∧ dev < (most.length : Int) ∧ 0 ≤ place ∧ place < (most.getD dev.toNat 0 : Nat))
theorem there_any {w : World} {g : Nat} {v0 v1 : Value} {off : Bool} {fuse steps : Int} {most ms : List Nat} (h : Blk w g v0 v1 off fuse steps) (hd : Disks w v0 most ms) (dev place : Int) :
    Calls Try.prog 32 #[.pointer (some ⟨g, 0, none⟩), .int .i64 dev, .int .i64 place] w fun e w' => e = .returned (.bool (thereB most dev place)) ∧ w' = w := by
  obtain ⟨⟨c0, c1, c2, c3, c4⟩, _⟩ := h.cells
  obtain ⟨hml, dk, cd, rfl, hcd, hcells⟩ := hd
  by_cases h1 : 0 ≤ dev
  · by_cases h2 : dev < (most.length : Int)
    · by_cases h3 : 0 ≤ place
      · obtain ⟨i, rfl⟩ : ∃ i : Nat, dev = (i : Int) := ⟨dev.toNat, by omega⟩
        have hi : i < most.length := by omega
        obtain ⟨k0, k1⟩ := hcells i hi (by omega)
        have e : thereB most i place = decide (place < (most[i] : Int)) := by simp [thereB, hi, h3]
        rw [e]
        clear e k1
        generalize most[i] = m at k0
        clear hml hcells
        go_enter Try.func32, Try.ntmps32
        go_wp2_with fail
        go_ret
        exact ⟨rfl, rfl⟩
      · have e : thereB most dev place = false := by simp [thereB]; omega
        rw [e]
        clear hml hcells e
        go_enter Try.func32, Try.ntmps32
        go_wp2_with fail
        go_ret
        exact ⟨rfl, rfl⟩
    · have e : thereB most dev place = false := by simp [thereB]; omega
      rw [e]
      clear hml hcells e
      go_enter Try.func32, Try.ntmps32
      go_wp2_with fail
      go_ret
      exact ⟨rfl, rfl⟩
  · have e : thereB most dev place = false := by simp [thereB]; omega
    rw [e]
    clear hml hcells e
    go_enter Try.func32, Try.ntmps32
    go_wp2_with fail
    go_ret
    exact ⟨rfl, rfl⟩
end Go.Proofs.Ytpnijopbbbgffaa.plantw
