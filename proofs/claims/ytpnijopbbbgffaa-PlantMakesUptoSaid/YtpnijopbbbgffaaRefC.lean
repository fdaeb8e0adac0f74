/- Layer 3: the reference's New. Conditions: as each theorem says. -/
import Derived.Test.YtpnijopbbbgffaaRefB
import Derived.Laws.MakeOwn
import Derived.Laws.OwnMore
import Derived.Deep.RegionHeld3
import Derived.Deep.QuietTactic
import Derived.BigQuiet
namespace Go.Proofs.Ytpnijopbbbgffaa.plantw
open Go.RowKit
open Go.Proofs.Ytpnijopbbbgffaa.plantp
open Go.Proofs.Ytpnijopbbbgffaa.mapfn
open Go.Proofs.Ytpnijopbbbgffaa.buf
theorem info3f : (Try.prog.info? 3).map (fun i => (i.zero, i.size, i.bytes)) = some (some (.int .i64 0), 1, 8) := by kernel_rfl
theorem info75f : (Try.prog.info? 75).map (fun i => (i.zero, i.size, i.bytes)) = some (some (.slice none 0 0), 1, 24) := by kernel_rfl
theorem info22f : (Try.prog.info? 22).map (fun i => (i.zero, i.size, i.bytes)) = some (some (.slice none 0 0), 1, 24) := by kernel_rfl
/-- A disk's row is made. -/
theorem makeRow (w : World) (z : Int) (h1 : 1 ≤ z) (h2 : z ≤ 65536) : (Instr.makeSlice 75 (.int .i64 z) (.int .i64 z)).run Try.prog w = .ok (.slice (some ⟨w.heap.size, 0, none⟩) z.toNat z.toNat) (w.alloc (.cells (List.replicate z.toNat (Value.slice none 0 0)).toArray 22)) := by
  obtain ⟨i, hi, hz, hs, hby⟩ := info_parts info22f
  have := run_makeSlice (P := Try.prog) w 75 22 i (.slice none 0 0) Try.underlying75 hi hz .i64 .i64 z z (by omega) (Int.le_refl _) (by rw [hs]; omega) (by rw [hby]; omega) (by omega)
  rw [this, hs]
  congr 2
  congr 1
  apply Array.ext'
  rw [Nat.mul_one]
  exact toList_madeCells_one _ _
theorem drew_base (w : World) : Below w.heap.size w w.drew := ⟨rfl, rfl, rfl, Nat.le_refl _, fun _ _ => rfl⟩
/-- The reference's plant while it is made: k disks. -/
def RNew (w : World) (g : Nat) (zs : List Int) (k : Nat) (W : World) : Prop := ∃ (vM vH : Value) (hv : List Value) (hb : List Nat), RMk w g zs vM vH hv hb k k W
set_option maxHeartbeats 4000000 in
set_option maxRecDepth 100000 in
theorem rnew_in {w : World} {b o c : Nat} {zs : List Int} (hz0 : zs.length ≠ 0) (hz4 : zs.length ≤ 4) (hb : b < w.heap.size) (hc : ∀ i (h : i < zs.length), w.cell? ⟨b, o + i, none⟩ = some (.int .i64 zs[i])) :
    Calls Try.prog 19 #[.slice (some ⟨b, o, none⟩) zs.length c] w fun e w' => (mayB zs = false ∧ e = .returned (.tuple #[.pointer none, .int .i64 30]) ∧ Below w.heap.size w w') ∨ (mayB zs = true ∧ ∃ g, e = .returned (.tuple #[.pointer (some ⟨g, 0, none⟩), .int .i64 0]) ∧ RNew w g zs zs.length w') := by
  have HC := Lib.hid hc
  clear hc
  have z0 : ¬ (zs.length : Int) = 0 := by omega
  have z4 : ¬ (4 : Int) < zs.length := by omega
  have z4' : (zs.length : Int) ≤ 4 := by omega
  go_enter Try.func19, Try.ntmps19
  go_wp2_with fail
  have hg1 : RNew w w.heap.size zs 0 (w.alloc (.cells #[.slice none 0 0, .slice none 0 0, .slice none 0 0, .bool false, .bool false, .int .i64 0, .int .i64 0] 59)) := by
    exact ⟨.slice none 0 0, .slice none 0 0, [], [], heap_alloc_last _ _, ⟨by simp, .inl ⟨rfl, .inl rfl⟩⟩, ⟨by simp, .inl ⟨rfl, .inl rfl⟩⟩, rfl, rfl, by omega, fun i h => by simp at h, by simp [bufBlock], by simp [bufBlock], (Below.refl _ _).alloc (Nat.le_refl _) _⟩
  have HG := Lib.hid hg1
  clear hg1
  obtain ⟨g, eg⟩ : ∃ g, w.heap.size = g := ⟨_, rfl⟩
  have hgw : w.heap.size ≤ g := by omega
  rw [eg] at HG
  rw [eg]
  have HGW := Lib.hid hgw
  clear eg hgw
  go_loopw [5] (fun i wr => ∃ k : Nat, k ≤ zs.length ∧ i = .int .i64 k ∧ RNew w g zs k wr) (fun i _ => zs.length - (intOf i).toNat)
  case atStart => exact ⟨0, by omega, rfl, HG.out⟩
  case round =>
    obtain ⟨k, hk, rfl, hr⟩ := hrel
    by_cases hlt : k < zs.length
    · have hlt' : (k : Int) < zs.length := by omega
      have hk4 : (k : Int) < 4 := by omega
      obtain ⟨vM, vH, hv, hbs, hR⟩ := hr
      obtain ⟨z, ez⟩ : ∃ z, zs[k] = z := ⟨_, rfl⟩
      have hcz : ∀ W, Below w.heap.size w W → W.cell? ⟨b, o + k, none⟩ = some (.int .i64 z) := fun W hW => by rw [← ez]; exact (hW.cell (p := ⟨b, o + k, none⟩) hb).trans (HC.out k hlt)
      have hcw := hcz wr hR.base
      by_cases hz : 1 ≤ z ∧ z ≤ 65536
      · obtain ⟨hz1, hz2⟩ := hz
        have hz1' : ¬ z < 1 := by omega
        have hz2' : ¬ (65536 : Int) < z := by omega
        have HR := Lib.hid hR
        have HCZ := Lib.hid hcz
        have EZ := Lib.hid ez
        clear hR hcz ez
        go_wp2_with fail
        have b1 : Below wr.heap.size wr (wr.drew.alloc (.cells #[.int .i64 z] 3)) := (drew_base wr).alloc (Nat.le_refl _) _
        have hgl := HR.out.lt g (by simp)
        have d1 : wr.drew.cell? ⟨g, 0, none⟩ = some vM := HR.out.blk.cell 0
        have d2 : (wr.drew.alloc (.cells #[.int .i64 z] 3)).cell? ⟨g, 0, none⟩ = some vM := (b1.cell (p := ⟨g, 0, none⟩) hgl).trans d1
        have hbW := HR.out.most.kept fun j hj => b1.block j (HR.out.most.lt j hj)
        have hnews : ∀ j u, [Value.int .i64 z][j]? = some u → (wr.drew.alloc (.cells #[.int .i64 z] 3)).cell? ((⟨wr.heap.size, 0, none⟩ : Addr).add j) = some u := fun j u hu => by
          have hj : j = 0 := by have := (List.getElem?_eq_some_iff.1 hu).1; simp at this; omega
          subst hj
          have : (wr.drew.alloc (.cells #[.int .i64 z] 3)).heap[wr.heap.size]? = some (.cells #[.int .i64 z] 3 (0, 0)) := heap_alloc_last _ _
          exact (cells_at this 0).trans hu
        have hb63 : k + 1 ≤ maxLen := by simp only [maxLen]; omega
        have hb80 : (k + 1) * 8 ≤ 140737488355328 := by omega
        have hcz1 := HCZ.out _ ((HR.out.base.trans (b1.mono HR.out.base.size)))
        refine wp_region_held_drew (S := (fun W => W.cell? ⟨b, o + k, none⟩ = some (.int .i64 z))) (by kernel_rfl) (hcw) (fun hHeld => ?_)
        refine wpAnyH_take (i := 0) (oi := { dst := some 34, op := Op.move (Operand.tmp 4), type := 43, pos := "ref.go:35", after := #[], guard := none }) (v := ?_) rfl (by kernel_rfl) (by kernel_rfl) (by kernel_rfl) (fun _ _ _ h => h) (Or.inl ⟨by rfl, ?hyr9_1⟩) (by assumption) ?restr9_1
        case hyr9_1 => (intro w hSw; (try dsimp only at hSw); go_simp; try with_reducible rfl)
        try simp only [Act.put, List.setIfInBounds_toArray, List.set_cons_zero, List.set_cons_succ]
        refine wpAnyH_take (i := 1) (oi := { dst := some 35, op := Op.move (Operand.tmp 4), type := 43, pos := "ref.go:35", after := #[], guard := none }) (v := ?_) rfl (by kernel_rfl) (by kernel_rfl) (by kernel_rfl) (fun _ _ _ h => h) (Or.inl ⟨by rfl, ?hyr9_4⟩) (by assumption) ?restr9_4
        case hyr9_4 => (intro w hSw; (try dsimp only at hSw); go_simp; try with_reducible rfl)
        try simp only [Act.put, List.setIfInBounds_toArray, List.set_cons_zero, List.set_cons_succ]
        refine wpAnyH_take (i := 2) (oi := { dst := some 36, op := Op.nilCheck (Operand.tmp 35), type := 0, pos := "ref.go:35", after := #[{ on := 1, ground := Ground.data }], guard := none }) (v := ?_) rfl (by kernel_rfl) (by kernel_rfl) (by kernel_rfl) (fun _ _ _ h => h) (Or.inl ⟨by rfl, ?hyr9_7⟩) (by assumption) ?restr9_7
        case hyr9_7 => (intro w hSw; (try dsimp only at hSw); go_simp; try with_reducible rfl)
        try simp only [Act.put, List.setIfInBounds_toArray, List.set_cons_zero, List.set_cons_succ]
        refine wpAnyH_take (i := 3) (oi := { dst := some 37, op := Op.fieldAddr 59 (Operand.tmp 36) 0, type := 0, pos := "ref.go:35", after := #[{ on := 2, ground := Ground.data }], guard := none }) (v := ?_) rfl (by kernel_rfl) (by kernel_rfl) (by kernel_rfl) (fun _ _ _ h => h) (Or.inl ⟨by rfl, ?hyr9_10⟩) (by assumption) ?restr9_10
        case hyr9_10 => (intro w hSw; (try dsimp only at hSw); go_simp; try with_reducible rfl)
        try simp only [Act.put, List.setIfInBounds_toArray, List.set_cons_zero, List.set_cons_succ]
        refine wpAnyH_take (i := 5) (oi := { dst := some 39, op := Op.move (Operand.tmp 0), type := 28, pos := "ref.go:35", after := #[], guard := none }) (v := ?_) rfl (by kernel_rfl) (by kernel_rfl) (by kernel_rfl) (fun _ _ _ h => h) (Or.inl ⟨by rfl, ?hyr9_13⟩) (by assumption) ?restr9_13
        case hyr9_13 => (intro w hSw; (try dsimp only at hSw); go_simp; try with_reducible rfl)
        try simp only [Act.put, List.setIfInBounds_toArray, List.set_cons_zero, List.set_cons_succ]
        refine wpAnyH_take (i := 6) (oi := { dst := some 40, op := Op.move (Operand.tmp 5), type := 3, pos := "ref.go:35", after := #[], guard := none }) (v := ?_) rfl (by kernel_rfl) (by kernel_rfl) (by kernel_rfl) (fun _ _ _ h => h) (Or.inl ⟨by rfl, ?hyr9_16⟩) (by assumption) ?restr9_16
        case hyr9_16 => (intro w hSw; (try dsimp only at hSw); go_simp; try with_reducible rfl)
        try simp only [Act.put, List.setIfInBounds_toArray, List.set_cons_zero, List.set_cons_succ]
        refine wpAnyH_take (i := 7) (oi := { dst := some 41, op := Op.indexAddr 28 (Operand.tmp 39) (Operand.tmp 40), type := 0, pos := "ref.go:35", after := #[{ on := 5, ground := Ground.data }, { on := 6, ground := Ground.data }], guard := none }) (v := ?_) rfl (by kernel_rfl) (by kernel_rfl) (by kernel_rfl) (fun _ _ _ h => h) (Or.inl ⟨by rfl, ?hyr9_19⟩) (by assumption) ?restr9_19
        case hyr9_19 => (intro w hSw; (try dsimp only at hSw); go_simp; try with_reducible rfl)
        try simp only [Act.put, List.setIfInBounds_toArray, List.set_cons_zero, List.set_cons_succ]
        refine wpAnyH_take (i := 8) (oi := { dst := some 42, op := Op.load 3 (Operand.tmp 41), type := 3, pos := "ref.go:35", after := #[{ on := 7, ground := Ground.data }], guard := none }) (v := ?_) rfl (by kernel_rfl) (by kernel_rfl) (by kernel_rfl) (fun _ _ _ h => h) (Or.inl ⟨by rfl, ?hyr9_22⟩) (by assumption) ?restr9_22
        case hyr9_22 => (intro w hSw; (try dsimp only at hSw); go_simp; try with_reducible rfl)
        try simp only [Act.put, List.setIfInBounds_toArray, List.set_cons_zero, List.set_cons_succ]
        refine wpAnyH_ready (rs := [4, 9]) (by kernel_rfl) (by simp) (AllReadyH.cons (o := { dst := some 38, op := Op.load 28 (Operand.tmp 37), type := 28, pos := "ref.go:35", after := #[{ on := 3, ground := Ground.data }], guard := none }) rfl (fun K hK => ?_) (AllReadyH.cons (o := { dst := some 43, op := Op.buildSlice 28 1 #[(0, Operand.tmp 42)], type := 28, pos := "ref.go:35", after := #[{ on := 8, ground := Ground.data }], guard := none }) rfl (fun K hK => ?_) AllReadyH.nil))
        · refine step_run rfl vM (exec_load 28 (.tmp 37) rfl ⟨g, 0, none⟩ rfl _ (run_loadVar_cell Try.underlying28 rfl (by first | exact d1 | exact d2))) ?_
          refine hK.out _ _ (hHeld) (fun hHeld => ?_)
          clear hK K
          try simp only [Act.put, List.setIfInBounds_toArray, List.set_cons_zero, List.set_cons_succ]
          refine wpAnyH_ready (rs := [9]) (by kernel_rfl) (by simp) (AllReadyH.cons (o := { dst := some 43, op := Op.buildSlice 28 1 #[(0, Operand.tmp 42)], type := 28, pos := "ref.go:35", after := #[{ on := 8, ground := Ground.data }], guard := none }) rfl (fun K hK => ?_) AllReadyH.nil)
          go_simp
          refine hK.out _ _ (hcz1) (fun hHeld => ?_)
          clear hK K
          try simp only [Act.put, List.setIfInBounds_toArray, List.set_cons_zero, List.set_cons_succ]
          refine wpAnyH_ready (rs := [10]) (by kernel_rfl) (by simp) (AllReadyH.cons (o := { dst := some 44, op := Op.call { callee := Callee.builtin Builtin.append, args := #[Operand.tmp 38, Operand.tmp 43], argTypes := #[28, 28] }, type := 28, pos := "ref.go:35", after := #[{ on := 4, ground := Ground.data }, { on := 9, ground := Ground.data }], guard := none }) rfl (fun K hK => ?_) AllReadyH.nil)
          refine step_append_buf rfl (.tmp 38) (.tmp 43) 28 rfl 3 (.int .i64 0) 1 8 Try.underlying28 info3f rfl (by omega) vM k _ rfl hbW ⟨wr.heap.size, 0, none⟩ 1 1 rfl [.int .i64 z] rfl hnews (by intro u hu; obtain rfl := List.mem_singleton.1 hu; rfl) (by omega) hb63 hb80 (fun gg cap w3 hB3 hg3 hc1 hc2 hat hlt3 => ?_)
          have hg4 : (wr.drew.alloc (.cells #[.int .i64 z] 3)).grownBy w3 (bufBlock vM) := hg3
          have hat4 : bufBlock vM = some gg ∨ gg = (wr.drew.alloc (.cells #[.int .i64 z] 3)).heap.size := hat
          have hcap : 0 < cap := by omega
          have hW := HR.out.addMost hlt b1 hcap (by rw [EZ.out]; exact hB3) hg4 hat4
          have hgm : some g ≠ bufBlock vM := fun e => (List.nodup_cons.1 HR.out.nodup).1 (by simp [← e])
          have e3 := ((hg4.block g (by have := b1.size; omega) hgm).trans (b1.block g hgl)).trans HR.out.blk
          have f3 : w3.cell? ⟨g, 0, none⟩ = some vM := cells_at e3 0
          have f3' : w3.frozen? ⟨g, 0, none⟩ = false := frozen_at e3 0
          have hcz3 : w3.cell? ⟨b, o + k, none⟩ = some (.int .i64 z) := (World.cell?_of_block (a := ⟨b, o + k, none⟩) (hg4.block b (by have := b1.size; have := HR.out.base.size; omega) (fun e => by have := HR.out.new b (by simp [← e]); omega))).trans hcz1
          refine hK.out _ _ (hcz3) (fun hHeld => ?_)
          clear hK K
          try simp only [Act.put, List.setIfInBounds_toArray, List.set_cons_zero, List.set_cons_succ]
          refine wpAnyH_take (i := 11) (oi := { dst := some 45, op := Op.nilCheck (Operand.tmp 34), type := 0, pos := "ref.go:35", after := #[{ on := 0, ground := Ground.data }, { on := 0, ground := Ground.phase }, { on := 1, ground := Ground.phase }, { on := 2, ground := Ground.phase }, { on := 3, ground := Ground.phase }, { on := 4, ground := Ground.phase }, { on := 5, ground := Ground.phase }, { on := 6, ground := Ground.phase }, { on := 7, ground := Ground.phase }, { on := 8, ground := Ground.phase }, { on := 9, ground := Ground.phase }, { on := 10, ground := Ground.phase }], guard := none }) (v := ?_) rfl (by kernel_rfl) (by kernel_rfl) (by kernel_rfl) (fun _ _ _ h => h) (Or.inl ⟨by rfl, ?hyr9_49⟩) (by assumption) ?restr9_49
          case hyr9_49 => (intro w hSw; (try dsimp only at hSw); go_simp; try with_reducible rfl)
          try simp only [Act.put, List.setIfInBounds_toArray, List.set_cons_zero, List.set_cons_succ]
          refine wpAnyH_take (i := 12) (oi := { dst := some 46, op := Op.fieldAddr 59 (Operand.tmp 45) 0, type := 0, pos := "ref.go:35", after := #[{ on := 11, ground := Ground.data }, { on := 0, ground := Ground.phase }, { on := 1, ground := Ground.phase }, { on := 2, ground := Ground.phase }, { on := 3, ground := Ground.phase }, { on := 4, ground := Ground.phase }, { on := 5, ground := Ground.phase }, { on := 6, ground := Ground.phase }, { on := 7, ground := Ground.phase }, { on := 8, ground := Ground.phase }, { on := 9, ground := Ground.phase }, { on := 10, ground := Ground.phase }], guard := none }) (v := ?_) rfl (by kernel_rfl) (by kernel_rfl) (by kernel_rfl) (fun _ _ _ h => h) (Or.inl ⟨by rfl, ?hyr9_52⟩) (by assumption) ?restr9_52
          case hyr9_52 => (intro w hSw; (try dsimp only at hSw); go_simp; try with_reducible rfl)
          try simp only [Act.put, List.setIfInBounds_toArray, List.set_cons_zero, List.set_cons_succ]
          refine wpAnyH_ready (rs := [13]) (by kernel_rfl) (by simp) (AllReadyH.cons (o := { dst := none, op := Op.store 28 (Operand.tmp 46) (Operand.tmp 44), type := 0, pos := "ref.go:35", after := #[{ on := 12, ground := Ground.data }, { on := 10, ground := Ground.data }, { on := 10, ground := Ground.chain }, { on := 0, ground := Ground.phase }, { on := 1, ground := Ground.phase }, { on := 2, ground := Ground.phase }, { on := 3, ground := Ground.phase }, { on := 4, ground := Ground.phase }, { on := 5, ground := Ground.phase }, { on := 6, ground := Ground.phase }, { on := 7, ground := Ground.phase }, { on := 8, ground := Ground.phase }, { on := 9, ground := Ground.phase }, { on := 10, ground := Ground.phase }], guard := none }) rfl (fun K hK => ?_) AllReadyH.nil)
          refine step_nov rfl (exec_store 28 (.tmp 46) (.tmp 44) rfl ⟨g, 0, none⟩ rfl (.slice (some ⟨gg, 0, none⟩) (k + 1) cap) rfl (run_storeVar_cell (by kernel_rfl) f3 f3' rfl)) ?_
          refine hK.out _ _ (HCZ.out _ hW.base) (fun hHeld => ?_)
          clear hK K
          refine wpAnyH_done (by kernel_rfl) ?_ _
          have HW := Lib.hid hW
          have hcz4 := HCZ.out _ hW.base
          obtain ⟨w4, e4⟩ : ∃ W, w3.setCell ⟨g, 0, none⟩ (.slice (some ⟨gg, 0, none⟩) (k + 1) cap) = W := ⟨_, rfl⟩
          rw [e4]
          rw [e4] at HW hcz4
          obtain ⟨vN, eN⟩ : ∃ vN, (Value.slice (some ⟨gg, 0, none⟩) (k + 1) cap) = vN := ⟨_, rfl⟩
          rw [eN]
          rw [eN] at HW
          clear e4 eN hW hHeld hcz3 f3 f3' e3 hgm hcap hat4 hg4 hB3 hg3 hc1 hc2 hat hlt3 hcz1 hb63 hb80 hnews hbW d1 d2 hgl b1 HR hcw
          go_wp2_with fail
          have hgl := HW.out.lt g (by simp)
          have ba : Below w4.heap.size w4 (w4.drew.alloc (.cells (List.replicate z.toNat (Value.slice none 0 0)).toArray 22)) := (drew_base w4).alloc (Nat.le_refl _) _
          have bb : Below w4.heap.size w4 ((w4.drew.alloc (.cells (List.replicate z.toNat (Value.slice none 0 0)).toArray 22)).alloc (.cells #[.slice (some ⟨w4.heap.size, 0, none⟩) z.toNat z.toNat] 75)) := ba.alloc ba.size _
          have hmk := makeRow w4.drew z hz1 hz2
          have d1 : w4.drew.cell? ⟨g, 1, none⟩ = some vH := HW.out.blk.cell 1
          have d2 : (w4.drew.alloc (.cells (List.replicate z.toNat (Value.slice none 0 0)).toArray 22)).cell? ⟨g, 1, none⟩ = some vH := (ba.cell (p := ⟨g, 1, none⟩) hgl).trans d1
          have d3 : ((w4.drew.alloc (.cells (List.replicate z.toNat (Value.slice none 0 0)).toArray 22)).alloc (.cells #[.slice (some ⟨w4.heap.size, 0, none⟩) z.toNat z.toNat] 75)).cell? ⟨g, 1, none⟩ = some vH := (bb.cell (p := ⟨g, 1, none⟩) hgl).trans d1
          have hcza := HCZ.out _ (HW.out.base.trans (ba.mono HW.out.base.size))
          have hczb := HCZ.out _ (HW.out.base.trans (bb.mono HW.out.base.size))
          have hbW := HW.out.has.kept fun j hj => bb.block j (HW.out.has.lt j hj)
          have hna : (w4.drew.alloc (.cells (List.replicate z.toNat (Value.slice none 0 0)).toArray 22)).heap.size = w4.heap.size + 1 := by simp
          have hnc : ((w4.drew.alloc (.cells (List.replicate z.toNat (Value.slice none 0 0)).toArray 22)).alloc (.cells #[.slice (some ⟨w4.heap.size, 0, none⟩) z.toNat z.toNat] 75)).heap[w4.heap.size]? = some (.cells (List.replicate z.toNat (Value.slice none 0 0)).toArray 22 (0, 0)) := (((Below.refl _ _).alloc (Nat.le_refl _) _).block w4.heap.size (by rw [hna]; omega)).trans (heap_alloc_last w4.drew _)
          have hnews : ∀ j u, [Value.slice (some ⟨w4.heap.size, 0, none⟩) z.toNat z.toNat][j]? = some u → ((w4.drew.alloc (.cells (List.replicate z.toNat (Value.slice none 0 0)).toArray 22)).alloc (.cells #[.slice (some ⟨w4.heap.size, 0, none⟩) z.toNat z.toNat] 75)).cell? ((⟨w4.heap.size + 1, 0, none⟩ : Addr).add j) = some u := fun j u hu => by
            have hj : j = 0 := by have := (List.getElem?_eq_some_iff.1 hu).1; simp at this; omega
            subst hj
            have h0 := heap_alloc_last (w4.drew.alloc (.cells (List.replicate z.toNat (Value.slice none 0 0)).toArray 22)) (.cells #[.slice (some ⟨w4.heap.size, 0, none⟩) z.toNat z.toNat] 75)
            rw [hna] at h0
            exact (cells_at h0 0).trans hu
          have hb63 : k + 1 ≤ maxLen := by simp only [maxLen]; omega
          have hb80 : (k + 1) * 24 ≤ 140737488355328 := by omega
          clear hna
          refine wp_region_held_drew (S := (fun W => W.cell? ⟨b, o + k, none⟩ = some (.int .i64 z))) (by kernel_rfl) (hcz4) (fun hHeld => ?_)
          refine wpAnyH_take (i := 0) (oi := { dst := some 47, op := Op.move (Operand.tmp 4), type := 43, pos := "ref.go:36", after := #[], guard := none }) (v := ?_) rfl (by kernel_rfl) (by kernel_rfl) (by kernel_rfl) (fun _ _ _ h => h) (Or.inl ⟨by rfl, ?hyrt1_1⟩) (by assumption) ?restrt1_1
          case hyrt1_1 => (intro w hSw; (try dsimp only at hSw); go_simp; try with_reducible rfl)
          try simp only [Act.put, List.setIfInBounds_toArray, List.set_cons_zero, List.set_cons_succ]
          refine wpAnyH_take (i := 1) (oi := { dst := some 48, op := Op.move (Operand.tmp 4), type := 43, pos := "ref.go:36", after := #[], guard := none }) (v := ?_) rfl (by kernel_rfl) (by kernel_rfl) (by kernel_rfl) (fun _ _ _ h => h) (Or.inl ⟨by rfl, ?hyrt1_4⟩) (by assumption) ?restrt1_4
          case hyrt1_4 => (intro w hSw; (try dsimp only at hSw); go_simp; try with_reducible rfl)
          try simp only [Act.put, List.setIfInBounds_toArray, List.set_cons_zero, List.set_cons_succ]
          refine wpAnyH_take (i := 2) (oi := { dst := some 49, op := Op.nilCheck (Operand.tmp 48), type := 0, pos := "ref.go:36", after := #[{ on := 1, ground := Ground.data }], guard := none }) (v := ?_) rfl (by kernel_rfl) (by kernel_rfl) (by kernel_rfl) (fun _ _ _ h => h) (Or.inl ⟨by rfl, ?hyrt1_7⟩) (by assumption) ?restrt1_7
          case hyrt1_7 => (intro w hSw; (try dsimp only at hSw); go_simp; try with_reducible rfl)
          try simp only [Act.put, List.setIfInBounds_toArray, List.set_cons_zero, List.set_cons_succ]
          refine wpAnyH_take (i := 3) (oi := { dst := some 50, op := Op.fieldAddr 59 (Operand.tmp 49) 1, type := 0, pos := "ref.go:36", after := #[{ on := 2, ground := Ground.data }], guard := none }) (v := ?_) rfl (by kernel_rfl) (by kernel_rfl) (by kernel_rfl) (fun _ _ _ h => h) (Or.inl ⟨by rfl, ?hyrt1_10⟩) (by assumption) ?restrt1_10
          case hyrt1_10 => (intro w hSw; (try dsimp only at hSw); go_simp; try with_reducible rfl)
          try simp only [Act.put, List.setIfInBounds_toArray, List.set_cons_zero, List.set_cons_succ]
          refine wpAnyH_take (i := 5) (oi := { dst := some 52, op := Op.move (Operand.tmp 0), type := 28, pos := "ref.go:36", after := #[], guard := none }) (v := ?_) rfl (by kernel_rfl) (by kernel_rfl) (by kernel_rfl) (fun _ _ _ h => h) (Or.inl ⟨by rfl, ?hyrt1_13⟩) (by assumption) ?restrt1_13
          case hyrt1_13 => (intro w hSw; (try dsimp only at hSw); go_simp; try with_reducible rfl)
          try simp only [Act.put, List.setIfInBounds_toArray, List.set_cons_zero, List.set_cons_succ]
          refine wpAnyH_take (i := 6) (oi := { dst := some 53, op := Op.move (Operand.tmp 5), type := 3, pos := "ref.go:36", after := #[], guard := none }) (v := ?_) rfl (by kernel_rfl) (by kernel_rfl) (by kernel_rfl) (fun _ _ _ h => h) (Or.inl ⟨by rfl, ?hyrt1_16⟩) (by assumption) ?restrt1_16
          case hyrt1_16 => (intro w hSw; (try dsimp only at hSw); go_simp; try with_reducible rfl)
          try simp only [Act.put, List.setIfInBounds_toArray, List.set_cons_zero, List.set_cons_succ]
          refine wpAnyH_take (i := 7) (oi := { dst := some 54, op := Op.indexAddr 28 (Operand.tmp 52) (Operand.tmp 53), type := 0, pos := "ref.go:36", after := #[{ on := 5, ground := Ground.data }, { on := 6, ground := Ground.data }], guard := none }) (v := ?_) rfl (by kernel_rfl) (by kernel_rfl) (by kernel_rfl) (fun _ _ _ h => h) (Or.inl ⟨by rfl, ?hyrt1_19⟩) (by assumption) ?restrt1_19
          case hyrt1_19 => (intro w hSw; (try dsimp only at hSw); go_simp; try with_reducible rfl)
          try simp only [Act.put, List.setIfInBounds_toArray, List.set_cons_zero, List.set_cons_succ]
          refine wpAnyH_take (i := 8) (oi := { dst := some 55, op := Op.load 3 (Operand.tmp 54), type := 3, pos := "ref.go:36", after := #[{ on := 7, ground := Ground.data }], guard := none }) (v := ?_) rfl (by kernel_rfl) (by kernel_rfl) (by kernel_rfl) (fun _ _ _ h => h) (Or.inl ⟨by rfl, ?hyrt1_22⟩) (by assumption) ?restrt1_22
          case hyrt1_22 => (intro w hSw; (try dsimp only at hSw); go_simp; try with_reducible rfl)
          try simp only [Act.put, List.setIfInBounds_toArray, List.set_cons_zero, List.set_cons_succ]
          refine wpAnyH_ready (rs := [4, 9]) (by kernel_rfl) (by simp) (AllReadyH.cons (o := { dst := some 51, op := Op.load 56 (Operand.tmp 50), type := 56, pos := "ref.go:36", after := #[{ on := 3, ground := Ground.data }], guard := none }) rfl (fun K hK => ?_) (AllReadyH.cons (o := { dst := some 56, op := Op.makeSlice 75 (Operand.tmp 55) (Operand.tmp 55), type := 75, pos := "ref.go:36", after := #[{ on := 8, ground := Ground.data }, { on := 8, ground := Ground.data }], guard := none }) rfl (fun K hK => ?_) AllReadyH.nil))
          · refine step_run rfl vH (exec_load 56 (.tmp 50) rfl ⟨g, 1, none⟩ rfl _ (run_loadVar_cell Try.underlying56 rfl (by first | exact d1 | exact d2 | exact d3))) ?_
            refine hK.out _ _ (hHeld) (fun hHeld => ?_)
            clear hK K
            try simp only [Act.put, List.setIfInBounds_toArray, List.set_cons_zero, List.set_cons_succ]
            refine wpAnyH_ready (rs := [9]) (by kernel_rfl) (by simp) (AllReadyH.cons (o := { dst := some 56, op := Op.makeSlice 75 (Operand.tmp 55) (Operand.tmp 55), type := 75, pos := "ref.go:36", after := #[{ on := 8, ground := Ground.data }, { on := 8, ground := Ground.data }], guard := none }) rfl (fun K hK => ?_) AllReadyH.nil)
            refine step_run rfl (.slice (some ⟨w4.heap.size, 0, none⟩) z.toNat z.toNat) (exec_makeSlice 75 (.tmp 55) (.tmp 55) rfl (.int .i64 z) (.int .i64 z) _ rfl rfl hmk) ?_
            refine hK.out _ _ (hcza) (fun hHeld => ?_)
            clear hK K
            try simp only [Act.put, List.setIfInBounds_toArray, List.set_cons_zero, List.set_cons_succ]
            refine wpAnyH_ready (rs := [10]) (by kernel_rfl) (by simp) (AllReadyH.cons (o := { dst := some 57, op := Op.buildSlice 56 1 #[(0, Operand.tmp 56)], type := 56, pos := "ref.go:36", after := #[{ on := 9, ground := Ground.data }], guard := none }) rfl (fun K hK => ?_) AllReadyH.nil)
            go_simp
            refine hK.out _ _ (hczb) (fun hHeld => ?_)
            clear hK K
            try simp only [Act.put, List.setIfInBounds_toArray, List.set_cons_zero, List.set_cons_succ]
            refine wpAnyH_ready (rs := [11]) (by kernel_rfl) (by simp) (AllReadyH.cons (o := { dst := some 58, op := Op.call { callee := Callee.builtin Builtin.append, args := #[Operand.tmp 51, Operand.tmp 57], argTypes := #[56, 56] }, type := 56, pos := "ref.go:36", after := #[{ on := 4, ground := Ground.data }, { on := 10, ground := Ground.data }], guard := none }) rfl (fun K hK => ?_) AllReadyH.nil)
            refine step_append_buf rfl (.tmp 51) (.tmp 57) 56 rfl 75 (.slice none 0 0) 1 24 Try.underlying56 info75f rfl (by omega) vH k _ rfl hbW ⟨w4.heap.size + 1, 0, none⟩ 1 1 rfl [Value.slice (some ⟨w4.heap.size, 0, none⟩) z.toNat z.toNat] rfl hnews (by intro u hu; obtain rfl := List.mem_singleton.1 hu; rfl) (by omega) hb63 hb80 (fun gh ch w5 hB5 hg5 hc1 hc2 hat hlt5 => ?_)
            have hg6 : ((w4.drew.alloc (.cells (List.replicate z.toNat (Value.slice none 0 0)).toArray 22)).alloc (.cells #[.slice (some ⟨w4.heap.size, 0, none⟩) z.toNat z.toNat] 75)).grownBy w5 (bufBlock vH) := hg5
            have hat6 : bufBlock vH = some gh ∨ gh = ((w4.drew.alloc (.cells (List.replicate z.toNat (Value.slice none 0 0)).toArray 22)).alloc (.cells #[.slice (some ⟨w4.heap.size, 0, none⟩) z.toNat z.toNat] 75)).heap.size := hat
            have hcap : 0 < ch := by omega
            have hV := HW.out.addHas hlt (by rw [EZ.out]; exact ⟨hz1, hz2⟩) bb hcap (Nat.le_refl _) (by rw [EZ.out]; exact hnc) (by rw [EZ.out]; exact hB5) hg6 hat6
            have hgm : some g ≠ bufBlock vH := fun e => (List.nodup_cons.1 HW.out.nodup).1 (by simp [← e])
            have e5 := ((hg6.block g (by have := bb.size; omega) hgm).trans (bb.block g hgl)).trans HW.out.blk
            have f5 : w5.cell? ⟨g, 1, none⟩ = some vH := cells_at e5 1
            have f5' : w5.frozen? ⟨g, 1, none⟩ = false := frozen_at e5 1
            have hcz5 : w5.cell? ⟨b, o + k, none⟩ = some (.int .i64 z) := (World.cell?_of_block (a := ⟨b, o + k, none⟩) (hg6.block b (by have := bb.size; have := HW.out.base.size; omega) (fun e => by have := HW.out.new b (by simp [← e]); omega))).trans hczb
            refine hK.out _ _ (hcz5) (fun hHeld => ?_)
            clear hK K
            try simp only [Act.put, List.setIfInBounds_toArray, List.set_cons_zero, List.set_cons_succ]
            refine wpAnyH_take (i := 12) (oi := { dst := some 59, op := Op.nilCheck (Operand.tmp 47), type := 0, pos := "ref.go:36", after := #[{ on := 0, ground := Ground.data }, { on := 0, ground := Ground.phase }, { on := 1, ground := Ground.phase }, { on := 2, ground := Ground.phase }, { on := 3, ground := Ground.phase }, { on := 4, ground := Ground.phase }, { on := 5, ground := Ground.phase }, { on := 6, ground := Ground.phase }, { on := 7, ground := Ground.phase }, { on := 8, ground := Ground.phase }, { on := 9, ground := Ground.phase }, { on := 10, ground := Ground.phase }, { on := 11, ground := Ground.phase }], guard := none }) (v := ?_) rfl (by kernel_rfl) (by kernel_rfl) (by kernel_rfl) (fun _ _ _ h => h) (Or.inl ⟨by rfl, ?hyrt1_54⟩) (by assumption) ?restrt1_54
            case hyrt1_54 => (intro w hSw; (try dsimp only at hSw); go_simp; try with_reducible rfl)
            try simp only [Act.put, List.setIfInBounds_toArray, List.set_cons_zero, List.set_cons_succ]
            refine wpAnyH_take (i := 13) (oi := { dst := some 60, op := Op.fieldAddr 59 (Operand.tmp 59) 1, type := 0, pos := "ref.go:36", after := #[{ on := 12, ground := Ground.data }, { on := 0, ground := Ground.phase }, { on := 1, ground := Ground.phase }, { on := 2, ground := Ground.phase }, { on := 3, ground := Ground.phase }, { on := 4, ground := Ground.phase }, { on := 5, ground := Ground.phase }, { on := 6, ground := Ground.phase }, { on := 7, ground := Ground.phase }, { on := 8, ground := Ground.phase }, { on := 9, ground := Ground.phase }, { on := 10, ground := Ground.phase }, { on := 11, ground := Ground.phase }], guard := none }) (v := ?_) rfl (by kernel_rfl) (by kernel_rfl) (by kernel_rfl) (fun _ _ _ h => h) (Or.inl ⟨by rfl, ?hyrt1_57⟩) (by assumption) ?restrt1_57
            case hyrt1_57 => (intro w hSw; (try dsimp only at hSw); go_simp; try with_reducible rfl)
            try simp only [Act.put, List.setIfInBounds_toArray, List.set_cons_zero, List.set_cons_succ]
            refine wpAnyH_ready (rs := [14]) (by kernel_rfl) (by simp) (AllReadyH.cons (o := { dst := none, op := Op.store 56 (Operand.tmp 60) (Operand.tmp 58), type := 0, pos := "ref.go:36", after := #[{ on := 13, ground := Ground.data }, { on := 11, ground := Ground.data }, { on := 11, ground := Ground.chain }, { on := 0, ground := Ground.phase }, { on := 1, ground := Ground.phase }, { on := 2, ground := Ground.phase }, { on := 3, ground := Ground.phase }, { on := 4, ground := Ground.phase }, { on := 5, ground := Ground.phase }, { on := 6, ground := Ground.phase }, { on := 7, ground := Ground.phase }, { on := 8, ground := Ground.phase }, { on := 9, ground := Ground.phase }, { on := 10, ground := Ground.phase }, { on := 11, ground := Ground.phase }], guard := none }) rfl (fun K hK => ?_) AllReadyH.nil)
            refine step_nov rfl (exec_store 56 (.tmp 60) (.tmp 58) rfl ⟨g, 1, none⟩ rfl (.slice (some ⟨gh, 0, none⟩) (k + 1) ch) rfl (run_storeVar_cell (by kernel_rfl) f5 f5' rfl)) ?_
            refine hK.out _ _ (HCZ.out _ hV.base) (fun hHeld => ?_)
            clear hK K
            refine wpAnyH_done (by kernel_rfl) ?_ _
            have HV := Lib.hid hV
            clear hV hHeld hcz5 f5 f5' e5 hgm hcap hat6 hg6 hB5 hg5 hc1 hc2 hat hlt5 hczb hcza hcz4 hb63 hb80 hnews hnc hbW d1 d2 d3 hmk bb ba hgl HW
            go_wp2_with fail
            go_roundw
            case rel => exact ⟨k + 1, by omega, by go_num, _, _, _, _, HV.out⟩
            case measure => simp [intOf]; omega
          · refine step_run rfl (.slice (some ⟨w4.heap.size, 0, none⟩) z.toNat z.toNat) (exec_makeSlice 75 (.tmp 55) (.tmp 55) rfl (.int .i64 z) (.int .i64 z) _ rfl rfl hmk) ?_
            refine hK.out _ _ (hcza) (fun hHeld => ?_)
            clear hK K
            try simp only [Act.put, List.setIfInBounds_toArray, List.set_cons_zero, List.set_cons_succ]
            refine wpAnyH_ready (rs := [4, 10]) (by kernel_rfl) (by simp) (AllReadyH.cons (o := { dst := some 51, op := Op.load 56 (Operand.tmp 50), type := 56, pos := "ref.go:36", after := #[{ on := 3, ground := Ground.data }], guard := none }) rfl (fun K hK => ?_) (AllReadyH.cons (o := { dst := some 57, op := Op.buildSlice 56 1 #[(0, Operand.tmp 56)], type := 56, pos := "ref.go:36", after := #[{ on := 9, ground := Ground.data }], guard := none }) rfl (fun K hK => ?_) AllReadyH.nil))
            · refine step_run rfl vH (exec_load 56 (.tmp 50) rfl ⟨g, 1, none⟩ rfl _ (run_loadVar_cell Try.underlying56 rfl (by first | exact d1 | exact d2 | exact d3))) ?_
              refine hK.out _ _ (hHeld) (fun hHeld => ?_)
              clear hK K
              try simp only [Act.put, List.setIfInBounds_toArray, List.set_cons_zero, List.set_cons_succ]
              refine wpAnyH_ready (rs := [10]) (by kernel_rfl) (by simp) (AllReadyH.cons (o := { dst := some 57, op := Op.buildSlice 56 1 #[(0, Operand.tmp 56)], type := 56, pos := "ref.go:36", after := #[{ on := 9, ground := Ground.data }], guard := none }) rfl (fun K hK => ?_) AllReadyH.nil)
              go_simp
              refine hK.out _ _ (hczb) (fun hHeld => ?_)
              clear hK K
              try simp only [Act.put, List.setIfInBounds_toArray, List.set_cons_zero, List.set_cons_succ]
              refine wpAnyH_ready (rs := [11]) (by kernel_rfl) (by simp) (AllReadyH.cons (o := { dst := some 58, op := Op.call { callee := Callee.builtin Builtin.append, args := #[Operand.tmp 51, Operand.tmp 57], argTypes := #[56, 56] }, type := 56, pos := "ref.go:36", after := #[{ on := 4, ground := Ground.data }, { on := 10, ground := Ground.data }], guard := none }) rfl (fun K hK => ?_) AllReadyH.nil)
              refine step_append_buf rfl (.tmp 51) (.tmp 57) 56 rfl 75 (.slice none 0 0) 1 24 Try.underlying56 info75f rfl (by omega) vH k _ rfl hbW ⟨w4.heap.size + 1, 0, none⟩ 1 1 rfl [Value.slice (some ⟨w4.heap.size, 0, none⟩) z.toNat z.toNat] rfl hnews (by intro u hu; obtain rfl := List.mem_singleton.1 hu; rfl) (by omega) hb63 hb80 (fun gh ch w5 hB5 hg5 hc1 hc2 hat hlt5 => ?_)
              have hg6 : ((w4.drew.alloc (.cells (List.replicate z.toNat (Value.slice none 0 0)).toArray 22)).alloc (.cells #[.slice (some ⟨w4.heap.size, 0, none⟩) z.toNat z.toNat] 75)).grownBy w5 (bufBlock vH) := hg5
              have hat6 : bufBlock vH = some gh ∨ gh = ((w4.drew.alloc (.cells (List.replicate z.toNat (Value.slice none 0 0)).toArray 22)).alloc (.cells #[.slice (some ⟨w4.heap.size, 0, none⟩) z.toNat z.toNat] 75)).heap.size := hat
              have hcap : 0 < ch := by omega
              have hV := HW.out.addHas hlt (by rw [EZ.out]; exact ⟨hz1, hz2⟩) bb hcap (Nat.le_refl _) (by rw [EZ.out]; exact hnc) (by rw [EZ.out]; exact hB5) hg6 hat6
              have hgm : some g ≠ bufBlock vH := fun e => (List.nodup_cons.1 HW.out.nodup).1 (by simp [← e])
              have e5 := ((hg6.block g (by have := bb.size; omega) hgm).trans (bb.block g hgl)).trans HW.out.blk
              have f5 : w5.cell? ⟨g, 1, none⟩ = some vH := cells_at e5 1
              have f5' : w5.frozen? ⟨g, 1, none⟩ = false := frozen_at e5 1
              have hcz5 : w5.cell? ⟨b, o + k, none⟩ = some (.int .i64 z) := (World.cell?_of_block (a := ⟨b, o + k, none⟩) (hg6.block b (by have := bb.size; have := HW.out.base.size; omega) (fun e => by have := HW.out.new b (by simp [← e]); omega))).trans hczb
              refine hK.out _ _ (hcz5) (fun hHeld => ?_)
              clear hK K
              try simp only [Act.put, List.setIfInBounds_toArray, List.set_cons_zero, List.set_cons_succ]
              refine wpAnyH_take (i := 12) (oi := { dst := some 59, op := Op.nilCheck (Operand.tmp 47), type := 0, pos := "ref.go:36", after := #[{ on := 0, ground := Ground.data }, { on := 0, ground := Ground.phase }, { on := 1, ground := Ground.phase }, { on := 2, ground := Ground.phase }, { on := 3, ground := Ground.phase }, { on := 4, ground := Ground.phase }, { on := 5, ground := Ground.phase }, { on := 6, ground := Ground.phase }, { on := 7, ground := Ground.phase }, { on := 8, ground := Ground.phase }, { on := 9, ground := Ground.phase }, { on := 10, ground := Ground.phase }, { on := 11, ground := Ground.phase }], guard := none }) (v := ?_) rfl (by kernel_rfl) (by kernel_rfl) (by kernel_rfl) (fun _ _ _ h => h) (Or.inl ⟨by rfl, ?hyrt1_99⟩) (by assumption) ?restrt1_99
              case hyrt1_99 => (intro w hSw; (try dsimp only at hSw); go_simp; try with_reducible rfl)
              try simp only [Act.put, List.setIfInBounds_toArray, List.set_cons_zero, List.set_cons_succ]
              refine wpAnyH_take (i := 13) (oi := { dst := some 60, op := Op.fieldAddr 59 (Operand.tmp 59) 1, type := 0, pos := "ref.go:36", after := #[{ on := 12, ground := Ground.data }, { on := 0, ground := Ground.phase }, { on := 1, ground := Ground.phase }, { on := 2, ground := Ground.phase }, { on := 3, ground := Ground.phase }, { on := 4, ground := Ground.phase }, { on := 5, ground := Ground.phase }, { on := 6, ground := Ground.phase }, { on := 7, ground := Ground.phase }, { on := 8, ground := Ground.phase }, { on := 9, ground := Ground.phase }, { on := 10, ground := Ground.phase }, { on := 11, ground := Ground.phase }], guard := none }) (v := ?_) rfl (by kernel_rfl) (by kernel_rfl) (by kernel_rfl) (fun _ _ _ h => h) (Or.inl ⟨by rfl, ?hyrt1_102⟩) (by assumption) ?restrt1_102
              case hyrt1_102 => (intro w hSw; (try dsimp only at hSw); go_simp; try with_reducible rfl)
              try simp only [Act.put, List.setIfInBounds_toArray, List.set_cons_zero, List.set_cons_succ]
              refine wpAnyH_ready (rs := [14]) (by kernel_rfl) (by simp) (AllReadyH.cons (o := { dst := none, op := Op.store 56 (Operand.tmp 60) (Operand.tmp 58), type := 0, pos := "ref.go:36", after := #[{ on := 13, ground := Ground.data }, { on := 11, ground := Ground.data }, { on := 11, ground := Ground.chain }, { on := 0, ground := Ground.phase }, { on := 1, ground := Ground.phase }, { on := 2, ground := Ground.phase }, { on := 3, ground := Ground.phase }, { on := 4, ground := Ground.phase }, { on := 5, ground := Ground.phase }, { on := 6, ground := Ground.phase }, { on := 7, ground := Ground.phase }, { on := 8, ground := Ground.phase }, { on := 9, ground := Ground.phase }, { on := 10, ground := Ground.phase }, { on := 11, ground := Ground.phase }], guard := none }) rfl (fun K hK => ?_) AllReadyH.nil)
              refine step_nov rfl (exec_store 56 (.tmp 60) (.tmp 58) rfl ⟨g, 1, none⟩ rfl (.slice (some ⟨gh, 0, none⟩) (k + 1) ch) rfl (run_storeVar_cell (by kernel_rfl) f5 f5' rfl)) ?_
              refine hK.out _ _ (HCZ.out _ hV.base) (fun hHeld => ?_)
              clear hK K
              refine wpAnyH_done (by kernel_rfl) ?_ _
              have HV := Lib.hid hV
              clear hV hHeld hcz5 f5 f5' e5 hgm hcap hat6 hg6 hB5 hg5 hc1 hc2 hat hlt5 hczb hcza hcz4 hb63 hb80 hnews hnc hbW d1 d2 d3 hmk bb ba hgl HW
              go_wp2_with fail
              go_roundw
              case rel => exact ⟨k + 1, by omega, by go_num, _, _, _, _, HV.out⟩
              case measure => simp [intOf]; omega
            · go_simp
              refine hK.out _ _ (hczb) (fun hHeld => ?_)
              clear hK K
              try simp only [Act.put, List.setIfInBounds_toArray, List.set_cons_zero, List.set_cons_succ]
              refine wpAnyH_ready (rs := [4]) (by kernel_rfl) (by simp) (AllReadyH.cons (o := { dst := some 51, op := Op.load 56 (Operand.tmp 50), type := 56, pos := "ref.go:36", after := #[{ on := 3, ground := Ground.data }], guard := none }) rfl (fun K hK => ?_) AllReadyH.nil)
              refine step_run rfl vH (exec_load 56 (.tmp 50) rfl ⟨g, 1, none⟩ rfl _ (run_loadVar_cell Try.underlying56 rfl (by first | exact d1 | exact d2 | exact d3))) ?_
              refine hK.out _ _ (hHeld) (fun hHeld => ?_)
              clear hK K
              try simp only [Act.put, List.setIfInBounds_toArray, List.set_cons_zero, List.set_cons_succ]
              refine wpAnyH_ready (rs := [11]) (by kernel_rfl) (by simp) (AllReadyH.cons (o := { dst := some 58, op := Op.call { callee := Callee.builtin Builtin.append, args := #[Operand.tmp 51, Operand.tmp 57], argTypes := #[56, 56] }, type := 56, pos := "ref.go:36", after := #[{ on := 4, ground := Ground.data }, { on := 10, ground := Ground.data }], guard := none }) rfl (fun K hK => ?_) AllReadyH.nil)
              refine step_append_buf rfl (.tmp 51) (.tmp 57) 56 rfl 75 (.slice none 0 0) 1 24 Try.underlying56 info75f rfl (by omega) vH k _ rfl hbW ⟨w4.heap.size + 1, 0, none⟩ 1 1 rfl [Value.slice (some ⟨w4.heap.size, 0, none⟩) z.toNat z.toNat] rfl hnews (by intro u hu; obtain rfl := List.mem_singleton.1 hu; rfl) (by omega) hb63 hb80 (fun gh ch w5 hB5 hg5 hc1 hc2 hat hlt5 => ?_)
              have hg6 : ((w4.drew.alloc (.cells (List.replicate z.toNat (Value.slice none 0 0)).toArray 22)).alloc (.cells #[.slice (some ⟨w4.heap.size, 0, none⟩) z.toNat z.toNat] 75)).grownBy w5 (bufBlock vH) := hg5
              have hat6 : bufBlock vH = some gh ∨ gh = ((w4.drew.alloc (.cells (List.replicate z.toNat (Value.slice none 0 0)).toArray 22)).alloc (.cells #[.slice (some ⟨w4.heap.size, 0, none⟩) z.toNat z.toNat] 75)).heap.size := hat
              have hcap : 0 < ch := by omega
              have hV := HW.out.addHas hlt (by rw [EZ.out]; exact ⟨hz1, hz2⟩) bb hcap (Nat.le_refl _) (by rw [EZ.out]; exact hnc) (by rw [EZ.out]; exact hB5) hg6 hat6
              have hgm : some g ≠ bufBlock vH := fun e => (List.nodup_cons.1 HW.out.nodup).1 (by simp [← e])
              have e5 := ((hg6.block g (by have := bb.size; omega) hgm).trans (bb.block g hgl)).trans HW.out.blk
              have f5 : w5.cell? ⟨g, 1, none⟩ = some vH := cells_at e5 1
              have f5' : w5.frozen? ⟨g, 1, none⟩ = false := frozen_at e5 1
              have hcz5 : w5.cell? ⟨b, o + k, none⟩ = some (.int .i64 z) := (World.cell?_of_block (a := ⟨b, o + k, none⟩) (hg6.block b (by have := bb.size; have := HW.out.base.size; omega) (fun e => by have := HW.out.new b (by simp [← e]); omega))).trans hczb
              refine hK.out _ _ (hcz5) (fun hHeld => ?_)
              clear hK K
              try simp only [Act.put, List.setIfInBounds_toArray, List.set_cons_zero, List.set_cons_succ]
              refine wpAnyH_take (i := 12) (oi := { dst := some 59, op := Op.nilCheck (Operand.tmp 47), type := 0, pos := "ref.go:36", after := #[{ on := 0, ground := Ground.data }, { on := 0, ground := Ground.phase }, { on := 1, ground := Ground.phase }, { on := 2, ground := Ground.phase }, { on := 3, ground := Ground.phase }, { on := 4, ground := Ground.phase }, { on := 5, ground := Ground.phase }, { on := 6, ground := Ground.phase }, { on := 7, ground := Ground.phase }, { on := 8, ground := Ground.phase }, { on := 9, ground := Ground.phase }, { on := 10, ground := Ground.phase }, { on := 11, ground := Ground.phase }], guard := none }) (v := ?_) rfl (by kernel_rfl) (by kernel_rfl) (by kernel_rfl) (fun _ _ _ h => h) (Or.inl ⟨by rfl, ?hyrt1_139⟩) (by assumption) ?restrt1_139
              case hyrt1_139 => (intro w hSw; (try dsimp only at hSw); go_simp; try with_reducible rfl)
              try simp only [Act.put, List.setIfInBounds_toArray, List.set_cons_zero, List.set_cons_succ]
              refine wpAnyH_take (i := 13) (oi := { dst := some 60, op := Op.fieldAddr 59 (Operand.tmp 59) 1, type := 0, pos := "ref.go:36", after := #[{ on := 12, ground := Ground.data }, { on := 0, ground := Ground.phase }, { on := 1, ground := Ground.phase }, { on := 2, ground := Ground.phase }, { on := 3, ground := Ground.phase }, { on := 4, ground := Ground.phase }, { on := 5, ground := Ground.phase }, { on := 6, ground := Ground.phase }, { on := 7, ground := Ground.phase }, { on := 8, ground := Ground.phase }, { on := 9, ground := Ground.phase }, { on := 10, ground := Ground.phase }, { on := 11, ground := Ground.phase }], guard := none }) (v := ?_) rfl (by kernel_rfl) (by kernel_rfl) (by kernel_rfl) (fun _ _ _ h => h) (Or.inl ⟨by rfl, ?hyrt1_142⟩) (by assumption) ?restrt1_142
              case hyrt1_142 => (intro w hSw; (try dsimp only at hSw); go_simp; try with_reducible rfl)
              try simp only [Act.put, List.setIfInBounds_toArray, List.set_cons_zero, List.set_cons_succ]
              refine wpAnyH_ready (rs := [14]) (by kernel_rfl) (by simp) (AllReadyH.cons (o := { dst := none, op := Op.store 56 (Operand.tmp 60) (Operand.tmp 58), type := 0, pos := "ref.go:36", after := #[{ on := 13, ground := Ground.data }, { on := 11, ground := Ground.data }, { on := 11, ground := Ground.chain }, { on := 0, ground := Ground.phase }, { on := 1, ground := Ground.phase }, { on := 2, ground := Ground.phase }, { on := 3, ground := Ground.phase }, { on := 4, ground := Ground.phase }, { on := 5, ground := Ground.phase }, { on := 6, ground := Ground.phase }, { on := 7, ground := Ground.phase }, { on := 8, ground := Ground.phase }, { on := 9, ground := Ground.phase }, { on := 10, ground := Ground.phase }, { on := 11, ground := Ground.phase }], guard := none }) rfl (fun K hK => ?_) AllReadyH.nil)
              refine step_nov rfl (exec_store 56 (.tmp 60) (.tmp 58) rfl ⟨g, 1, none⟩ rfl (.slice (some ⟨gh, 0, none⟩) (k + 1) ch) rfl (run_storeVar_cell (by kernel_rfl) f5 f5' rfl)) ?_
              refine hK.out _ _ (HCZ.out _ hV.base) (fun hHeld => ?_)
              clear hK K
              refine wpAnyH_done (by kernel_rfl) ?_ _
              have HV := Lib.hid hV
              clear hV hHeld hcz5 f5 f5' e5 hgm hcap hat6 hg6 hB5 hg5 hc1 hc2 hat hlt5 hczb hcza hcz4 hb63 hb80 hnews hnc hbW d1 d2 d3 hmk bb ba hgl HW
              go_wp2_with fail
              go_roundw
              case rel => exact ⟨k + 1, by omega, by go_num, _, _, _, _, HV.out⟩
              case measure => simp [intOf]; omega
        · go_simp
          refine hK.out _ _ (hcz1) (fun hHeld => ?_)
          clear hK K
          try simp only [Act.put, List.setIfInBounds_toArray, List.set_cons_zero, List.set_cons_succ]
          refine wpAnyH_ready (rs := [4]) (by kernel_rfl) (by simp) (AllReadyH.cons (o := { dst := some 38, op := Op.load 28 (Operand.tmp 37), type := 28, pos := "ref.go:35", after := #[{ on := 3, ground := Ground.data }], guard := none }) rfl (fun K hK => ?_) AllReadyH.nil)
          refine step_run rfl vM (exec_load 28 (.tmp 37) rfl ⟨g, 0, none⟩ rfl _ (run_loadVar_cell Try.underlying28 rfl (by first | exact d1 | exact d2))) ?_
          refine hK.out _ _ (hHeld) (fun hHeld => ?_)
          clear hK K
          try simp only [Act.put, List.setIfInBounds_toArray, List.set_cons_zero, List.set_cons_succ]
          refine wpAnyH_ready (rs := [10]) (by kernel_rfl) (by simp) (AllReadyH.cons (o := { dst := some 44, op := Op.call { callee := Callee.builtin Builtin.append, args := #[Operand.tmp 38, Operand.tmp 43], argTypes := #[28, 28] }, type := 28, pos := "ref.go:35", after := #[{ on := 4, ground := Ground.data }, { on := 9, ground := Ground.data }], guard := none }) rfl (fun K hK => ?_) AllReadyH.nil)
          refine step_append_buf rfl (.tmp 38) (.tmp 43) 28 rfl 3 (.int .i64 0) 1 8 Try.underlying28 info3f rfl (by omega) vM k _ rfl hbW ⟨wr.heap.size, 0, none⟩ 1 1 rfl [.int .i64 z] rfl hnews (by intro u hu; obtain rfl := List.mem_singleton.1 hu; rfl) (by omega) hb63 hb80 (fun gg cap w3 hB3 hg3 hc1 hc2 hat hlt3 => ?_)
          have hg4 : (wr.drew.alloc (.cells #[.int .i64 z] 3)).grownBy w3 (bufBlock vM) := hg3
          have hat4 : bufBlock vM = some gg ∨ gg = (wr.drew.alloc (.cells #[.int .i64 z] 3)).heap.size := hat
          have hcap : 0 < cap := by omega
          have hW := HR.out.addMost hlt b1 hcap (by rw [EZ.out]; exact hB3) hg4 hat4
          have hgm : some g ≠ bufBlock vM := fun e => (List.nodup_cons.1 HR.out.nodup).1 (by simp [← e])
          have e3 := ((hg4.block g (by have := b1.size; omega) hgm).trans (b1.block g hgl)).trans HR.out.blk
          have f3 : w3.cell? ⟨g, 0, none⟩ = some vM := cells_at e3 0
          have f3' : w3.frozen? ⟨g, 0, none⟩ = false := frozen_at e3 0
          have hcz3 : w3.cell? ⟨b, o + k, none⟩ = some (.int .i64 z) := (World.cell?_of_block (a := ⟨b, o + k, none⟩) (hg4.block b (by have := b1.size; have := HR.out.base.size; omega) (fun e => by have := HR.out.new b (by simp [← e]); omega))).trans hcz1
          refine hK.out _ _ (hcz3) (fun hHeld => ?_)
          clear hK K
          try simp only [Act.put, List.setIfInBounds_toArray, List.set_cons_zero, List.set_cons_succ]
          refine wpAnyH_take (i := 11) (oi := { dst := some 45, op := Op.nilCheck (Operand.tmp 34), type := 0, pos := "ref.go:35", after := #[{ on := 0, ground := Ground.data }, { on := 0, ground := Ground.phase }, { on := 1, ground := Ground.phase }, { on := 2, ground := Ground.phase }, { on := 3, ground := Ground.phase }, { on := 4, ground := Ground.phase }, { on := 5, ground := Ground.phase }, { on := 6, ground := Ground.phase }, { on := 7, ground := Ground.phase }, { on := 8, ground := Ground.phase }, { on := 9, ground := Ground.phase }, { on := 10, ground := Ground.phase }], guard := none }) (v := ?_) rfl (by kernel_rfl) (by kernel_rfl) (by kernel_rfl) (fun _ _ _ h => h) (Or.inl ⟨by rfl, ?hyr9_115⟩) (by assumption) ?restr9_115
          case hyr9_115 => (intro w hSw; (try dsimp only at hSw); go_simp; try with_reducible rfl)
          try simp only [Act.put, List.setIfInBounds_toArray, List.set_cons_zero, List.set_cons_succ]
          refine wpAnyH_take (i := 12) (oi := { dst := some 46, op := Op.fieldAddr 59 (Operand.tmp 45) 0, type := 0, pos := "ref.go:35", after := #[{ on := 11, ground := Ground.data }, { on := 0, ground := Ground.phase }, { on := 1, ground := Ground.phase }, { on := 2, ground := Ground.phase }, { on := 3, ground := Ground.phase }, { on := 4, ground := Ground.phase }, { on := 5, ground := Ground.phase }, { on := 6, ground := Ground.phase }, { on := 7, ground := Ground.phase }, { on := 8, ground := Ground.phase }, { on := 9, ground := Ground.phase }, { on := 10, ground := Ground.phase }], guard := none }) (v := ?_) rfl (by kernel_rfl) (by kernel_rfl) (by kernel_rfl) (fun _ _ _ h => h) (Or.inl ⟨by rfl, ?hyr9_118⟩) (by assumption) ?restr9_118
          case hyr9_118 => (intro w hSw; (try dsimp only at hSw); go_simp; try with_reducible rfl)
          try simp only [Act.put, List.setIfInBounds_toArray, List.set_cons_zero, List.set_cons_succ]
          refine wpAnyH_ready (rs := [13]) (by kernel_rfl) (by simp) (AllReadyH.cons (o := { dst := none, op := Op.store 28 (Operand.tmp 46) (Operand.tmp 44), type := 0, pos := "ref.go:35", after := #[{ on := 12, ground := Ground.data }, { on := 10, ground := Ground.data }, { on := 10, ground := Ground.chain }, { on := 0, ground := Ground.phase }, { on := 1, ground := Ground.phase }, { on := 2, ground := Ground.phase }, { on := 3, ground := Ground.phase }, { on := 4, ground := Ground.phase }, { on := 5, ground := Ground.phase }, { on := 6, ground := Ground.phase }, { on := 7, ground := Ground.phase }, { on := 8, ground := Ground.phase }, { on := 9, ground := Ground.phase }, { on := 10, ground := Ground.phase }], guard := none }) rfl (fun K hK => ?_) AllReadyH.nil)
          refine step_nov rfl (exec_store 28 (.tmp 46) (.tmp 44) rfl ⟨g, 0, none⟩ rfl (.slice (some ⟨gg, 0, none⟩) (k + 1) cap) rfl (run_storeVar_cell (by kernel_rfl) f3 f3' rfl)) ?_
          refine hK.out _ _ (HCZ.out _ hW.base) (fun hHeld => ?_)
          clear hK K
          refine wpAnyH_done (by kernel_rfl) ?_ _
          have HW := Lib.hid hW
          have hcz4 := HCZ.out _ hW.base
          obtain ⟨w4, e4⟩ : ∃ W, w3.setCell ⟨g, 0, none⟩ (.slice (some ⟨gg, 0, none⟩) (k + 1) cap) = W := ⟨_, rfl⟩
          rw [e4]
          rw [e4] at HW hcz4
          obtain ⟨vN, eN⟩ : ∃ vN, (Value.slice (some ⟨gg, 0, none⟩) (k + 1) cap) = vN := ⟨_, rfl⟩
          rw [eN]
          rw [eN] at HW
          clear e4 eN hW hHeld hcz3 f3 f3' e3 hgm hcap hat4 hg4 hB3 hg3 hc1 hc2 hat hlt3 hcz1 hb63 hb80 hnews hbW d1 d2 hgl b1 HR hcw
          go_wp2_with fail
          have hgl := HW.out.lt g (by simp)
          have ba : Below w4.heap.size w4 (w4.drew.alloc (.cells (List.replicate z.toNat (Value.slice none 0 0)).toArray 22)) := (drew_base w4).alloc (Nat.le_refl _) _
          have bb : Below w4.heap.size w4 ((w4.drew.alloc (.cells (List.replicate z.toNat (Value.slice none 0 0)).toArray 22)).alloc (.cells #[.slice (some ⟨w4.heap.size, 0, none⟩) z.toNat z.toNat] 75)) := ba.alloc ba.size _
          have hmk := makeRow w4.drew z hz1 hz2
          have d1 : w4.drew.cell? ⟨g, 1, none⟩ = some vH := HW.out.blk.cell 1
          have d2 : (w4.drew.alloc (.cells (List.replicate z.toNat (Value.slice none 0 0)).toArray 22)).cell? ⟨g, 1, none⟩ = some vH := (ba.cell (p := ⟨g, 1, none⟩) hgl).trans d1
          have d3 : ((w4.drew.alloc (.cells (List.replicate z.toNat (Value.slice none 0 0)).toArray 22)).alloc (.cells #[.slice (some ⟨w4.heap.size, 0, none⟩) z.toNat z.toNat] 75)).cell? ⟨g, 1, none⟩ = some vH := (bb.cell (p := ⟨g, 1, none⟩) hgl).trans d1
          have hcza := HCZ.out _ (HW.out.base.trans (ba.mono HW.out.base.size))
          have hczb := HCZ.out _ (HW.out.base.trans (bb.mono HW.out.base.size))
          have hbW := HW.out.has.kept fun j hj => bb.block j (HW.out.has.lt j hj)
          have hna : (w4.drew.alloc (.cells (List.replicate z.toNat (Value.slice none 0 0)).toArray 22)).heap.size = w4.heap.size + 1 := by simp
          have hnc : ((w4.drew.alloc (.cells (List.replicate z.toNat (Value.slice none 0 0)).toArray 22)).alloc (.cells #[.slice (some ⟨w4.heap.size, 0, none⟩) z.toNat z.toNat] 75)).heap[w4.heap.size]? = some (.cells (List.replicate z.toNat (Value.slice none 0 0)).toArray 22 (0, 0)) := (((Below.refl _ _).alloc (Nat.le_refl _) _).block w4.heap.size (by rw [hna]; omega)).trans (heap_alloc_last w4.drew _)
          have hnews : ∀ j u, [Value.slice (some ⟨w4.heap.size, 0, none⟩) z.toNat z.toNat][j]? = some u → ((w4.drew.alloc (.cells (List.replicate z.toNat (Value.slice none 0 0)).toArray 22)).alloc (.cells #[.slice (some ⟨w4.heap.size, 0, none⟩) z.toNat z.toNat] 75)).cell? ((⟨w4.heap.size + 1, 0, none⟩ : Addr).add j) = some u := fun j u hu => by
            have hj : j = 0 := by have := (List.getElem?_eq_some_iff.1 hu).1; simp at this; omega
            subst hj
            have h0 := heap_alloc_last (w4.drew.alloc (.cells (List.replicate z.toNat (Value.slice none 0 0)).toArray 22)) (.cells #[.slice (some ⟨w4.heap.size, 0, none⟩) z.toNat z.toNat] 75)
            rw [hna] at h0
            exact (cells_at h0 0).trans hu
          have hb63 : k + 1 ≤ maxLen := by simp only [maxLen]; omega
          have hb80 : (k + 1) * 24 ≤ 140737488355328 := by omega
          clear hna
          refine wp_region_held_drew (S := (fun W => W.cell? ⟨b, o + k, none⟩ = some (.int .i64 z))) (by kernel_rfl) (hcz4) (fun hHeld => ?_)
          refine wpAnyH_take (i := 0) (oi := { dst := some 47, op := Op.move (Operand.tmp 4), type := 43, pos := "ref.go:36", after := #[], guard := none }) (v := ?_) rfl (by kernel_rfl) (by kernel_rfl) (by kernel_rfl) (fun _ _ _ h => h) (Or.inl ⟨by rfl, ?hyrt2_1⟩) (by assumption) ?restrt2_1
          case hyrt2_1 => (intro w hSw; (try dsimp only at hSw); go_simp; try with_reducible rfl)
          try simp only [Act.put, List.setIfInBounds_toArray, List.set_cons_zero, List.set_cons_succ]
          refine wpAnyH_take (i := 1) (oi := { dst := some 48, op := Op.move (Operand.tmp 4), type := 43, pos := "ref.go:36", after := #[], guard := none }) (v := ?_) rfl (by kernel_rfl) (by kernel_rfl) (by kernel_rfl) (fun _ _ _ h => h) (Or.inl ⟨by rfl, ?hyrt2_4⟩) (by assumption) ?restrt2_4
          case hyrt2_4 => (intro w hSw; (try dsimp only at hSw); go_simp; try with_reducible rfl)
          try simp only [Act.put, List.setIfInBounds_toArray, List.set_cons_zero, List.set_cons_succ]
          refine wpAnyH_take (i := 2) (oi := { dst := some 49, op := Op.nilCheck (Operand.tmp 48), type := 0, pos := "ref.go:36", after := #[{ on := 1, ground := Ground.data }], guard := none }) (v := ?_) rfl (by kernel_rfl) (by kernel_rfl) (by kernel_rfl) (fun _ _ _ h => h) (Or.inl ⟨by rfl, ?hyrt2_7⟩) (by assumption) ?restrt2_7
          case hyrt2_7 => (intro w hSw; (try dsimp only at hSw); go_simp; try with_reducible rfl)
          try simp only [Act.put, List.setIfInBounds_toArray, List.set_cons_zero, List.set_cons_succ]
          refine wpAnyH_take (i := 3) (oi := { dst := some 50, op := Op.fieldAddr 59 (Operand.tmp 49) 1, type := 0, pos := "ref.go:36", after := #[{ on := 2, ground := Ground.data }], guard := none }) (v := ?_) rfl (by kernel_rfl) (by kernel_rfl) (by kernel_rfl) (fun _ _ _ h => h) (Or.inl ⟨by rfl, ?hyrt2_10⟩) (by assumption) ?restrt2_10
          case hyrt2_10 => (intro w hSw; (try dsimp only at hSw); go_simp; try with_reducible rfl)
          try simp only [Act.put, List.setIfInBounds_toArray, List.set_cons_zero, List.set_cons_succ]
          refine wpAnyH_take (i := 5) (oi := { dst := some 52, op := Op.move (Operand.tmp 0), type := 28, pos := "ref.go:36", after := #[], guard := none }) (v := ?_) rfl (by kernel_rfl) (by kernel_rfl) (by kernel_rfl) (fun _ _ _ h => h) (Or.inl ⟨by rfl, ?hyrt2_13⟩) (by assumption) ?restrt2_13
          case hyrt2_13 => (intro w hSw; (try dsimp only at hSw); go_simp; try with_reducible rfl)
          try simp only [Act.put, List.setIfInBounds_toArray, List.set_cons_zero, List.set_cons_succ]
          refine wpAnyH_take (i := 6) (oi := { dst := some 53, op := Op.move (Operand.tmp 5), type := 3, pos := "ref.go:36", after := #[], guard := none }) (v := ?_) rfl (by kernel_rfl) (by kernel_rfl) (by kernel_rfl) (fun _ _ _ h => h) (Or.inl ⟨by rfl, ?hyrt2_16⟩) (by assumption) ?restrt2_16
          case hyrt2_16 => (intro w hSw; (try dsimp only at hSw); go_simp; try with_reducible rfl)
          try simp only [Act.put, List.setIfInBounds_toArray, List.set_cons_zero, List.set_cons_succ]
          refine wpAnyH_take (i := 7) (oi := { dst := some 54, op := Op.indexAddr 28 (Operand.tmp 52) (Operand.tmp 53), type := 0, pos := "ref.go:36", after := #[{ on := 5, ground := Ground.data }, { on := 6, ground := Ground.data }], guard := none }) (v := ?_) rfl (by kernel_rfl) (by kernel_rfl) (by kernel_rfl) (fun _ _ _ h => h) (Or.inl ⟨by rfl, ?hyrt2_19⟩) (by assumption) ?restrt2_19
          case hyrt2_19 => (intro w hSw; (try dsimp only at hSw); go_simp; try with_reducible rfl)
          try simp only [Act.put, List.setIfInBounds_toArray, List.set_cons_zero, List.set_cons_succ]
          refine wpAnyH_take (i := 8) (oi := { dst := some 55, op := Op.load 3 (Operand.tmp 54), type := 3, pos := "ref.go:36", after := #[{ on := 7, ground := Ground.data }], guard := none }) (v := ?_) rfl (by kernel_rfl) (by kernel_rfl) (by kernel_rfl) (fun _ _ _ h => h) (Or.inl ⟨by rfl, ?hyrt2_22⟩) (by assumption) ?restrt2_22
          case hyrt2_22 => (intro w hSw; (try dsimp only at hSw); go_simp; try with_reducible rfl)
          try simp only [Act.put, List.setIfInBounds_toArray, List.set_cons_zero, List.set_cons_succ]
          refine wpAnyH_ready (rs := [4, 9]) (by kernel_rfl) (by simp) (AllReadyH.cons (o := { dst := some 51, op := Op.load 56 (Operand.tmp 50), type := 56, pos := "ref.go:36", after := #[{ on := 3, ground := Ground.data }], guard := none }) rfl (fun K hK => ?_) (AllReadyH.cons (o := { dst := some 56, op := Op.makeSlice 75 (Operand.tmp 55) (Operand.tmp 55), type := 75, pos := "ref.go:36", after := #[{ on := 8, ground := Ground.data }, { on := 8, ground := Ground.data }], guard := none }) rfl (fun K hK => ?_) AllReadyH.nil))
          · refine step_run rfl vH (exec_load 56 (.tmp 50) rfl ⟨g, 1, none⟩ rfl _ (run_loadVar_cell Try.underlying56 rfl (by first | exact d1 | exact d2 | exact d3))) ?_
            refine hK.out _ _ (hHeld) (fun hHeld => ?_)
            clear hK K
            try simp only [Act.put, List.setIfInBounds_toArray, List.set_cons_zero, List.set_cons_succ]
            refine wpAnyH_ready (rs := [9]) (by kernel_rfl) (by simp) (AllReadyH.cons (o := { dst := some 56, op := Op.makeSlice 75 (Operand.tmp 55) (Operand.tmp 55), type := 75, pos := "ref.go:36", after := #[{ on := 8, ground := Ground.data }, { on := 8, ground := Ground.data }], guard := none }) rfl (fun K hK => ?_) AllReadyH.nil)
            refine step_run rfl (.slice (some ⟨w4.heap.size, 0, none⟩) z.toNat z.toNat) (exec_makeSlice 75 (.tmp 55) (.tmp 55) rfl (.int .i64 z) (.int .i64 z) _ rfl rfl hmk) ?_
            refine hK.out _ _ (hcza) (fun hHeld => ?_)
            clear hK K
            try simp only [Act.put, List.setIfInBounds_toArray, List.set_cons_zero, List.set_cons_succ]
            refine wpAnyH_ready (rs := [10]) (by kernel_rfl) (by simp) (AllReadyH.cons (o := { dst := some 57, op := Op.buildSlice 56 1 #[(0, Operand.tmp 56)], type := 56, pos := "ref.go:36", after := #[{ on := 9, ground := Ground.data }], guard := none }) rfl (fun K hK => ?_) AllReadyH.nil)
            go_simp
            refine hK.out _ _ (hczb) (fun hHeld => ?_)
            clear hK K
            try simp only [Act.put, List.setIfInBounds_toArray, List.set_cons_zero, List.set_cons_succ]
            refine wpAnyH_ready (rs := [11]) (by kernel_rfl) (by simp) (AllReadyH.cons (o := { dst := some 58, op := Op.call { callee := Callee.builtin Builtin.append, args := #[Operand.tmp 51, Operand.tmp 57], argTypes := #[56, 56] }, type := 56, pos := "ref.go:36", after := #[{ on := 4, ground := Ground.data }, { on := 10, ground := Ground.data }], guard := none }) rfl (fun K hK => ?_) AllReadyH.nil)
            refine step_append_buf rfl (.tmp 51) (.tmp 57) 56 rfl 75 (.slice none 0 0) 1 24 Try.underlying56 info75f rfl (by omega) vH k _ rfl hbW ⟨w4.heap.size + 1, 0, none⟩ 1 1 rfl [Value.slice (some ⟨w4.heap.size, 0, none⟩) z.toNat z.toNat] rfl hnews (by intro u hu; obtain rfl := List.mem_singleton.1 hu; rfl) (by omega) hb63 hb80 (fun gh ch w5 hB5 hg5 hc1 hc2 hat hlt5 => ?_)
            have hg6 : ((w4.drew.alloc (.cells (List.replicate z.toNat (Value.slice none 0 0)).toArray 22)).alloc (.cells #[.slice (some ⟨w4.heap.size, 0, none⟩) z.toNat z.toNat] 75)).grownBy w5 (bufBlock vH) := hg5
            have hat6 : bufBlock vH = some gh ∨ gh = ((w4.drew.alloc (.cells (List.replicate z.toNat (Value.slice none 0 0)).toArray 22)).alloc (.cells #[.slice (some ⟨w4.heap.size, 0, none⟩) z.toNat z.toNat] 75)).heap.size := hat
            have hcap : 0 < ch := by omega
            have hV := HW.out.addHas hlt (by rw [EZ.out]; exact ⟨hz1, hz2⟩) bb hcap (Nat.le_refl _) (by rw [EZ.out]; exact hnc) (by rw [EZ.out]; exact hB5) hg6 hat6
            have hgm : some g ≠ bufBlock vH := fun e => (List.nodup_cons.1 HW.out.nodup).1 (by simp [← e])
            have e5 := ((hg6.block g (by have := bb.size; omega) hgm).trans (bb.block g hgl)).trans HW.out.blk
            have f5 : w5.cell? ⟨g, 1, none⟩ = some vH := cells_at e5 1
            have f5' : w5.frozen? ⟨g, 1, none⟩ = false := frozen_at e5 1
            have hcz5 : w5.cell? ⟨b, o + k, none⟩ = some (.int .i64 z) := (World.cell?_of_block (a := ⟨b, o + k, none⟩) (hg6.block b (by have := bb.size; have := HW.out.base.size; omega) (fun e => by have := HW.out.new b (by simp [← e]); omega))).trans hczb
            refine hK.out _ _ (hcz5) (fun hHeld => ?_)
            clear hK K
            try simp only [Act.put, List.setIfInBounds_toArray, List.set_cons_zero, List.set_cons_succ]
            refine wpAnyH_take (i := 12) (oi := { dst := some 59, op := Op.nilCheck (Operand.tmp 47), type := 0, pos := "ref.go:36", after := #[{ on := 0, ground := Ground.data }, { on := 0, ground := Ground.phase }, { on := 1, ground := Ground.phase }, { on := 2, ground := Ground.phase }, { on := 3, ground := Ground.phase }, { on := 4, ground := Ground.phase }, { on := 5, ground := Ground.phase }, { on := 6, ground := Ground.phase }, { on := 7, ground := Ground.phase }, { on := 8, ground := Ground.phase }, { on := 9, ground := Ground.phase }, { on := 10, ground := Ground.phase }, { on := 11, ground := Ground.phase }], guard := none }) (v := ?_) rfl (by kernel_rfl) (by kernel_rfl) (by kernel_rfl) (fun _ _ _ h => h) (Or.inl ⟨by rfl, ?hyrt2_54⟩) (by assumption) ?restrt2_54
            case hyrt2_54 => (intro w hSw; (try dsimp only at hSw); go_simp; try with_reducible rfl)
            try simp only [Act.put, List.setIfInBounds_toArray, List.set_cons_zero, List.set_cons_succ]
            refine wpAnyH_take (i := 13) (oi := { dst := some 60, op := Op.fieldAddr 59 (Operand.tmp 59) 1, type := 0, pos := "ref.go:36", after := #[{ on := 12, ground := Ground.data }, { on := 0, ground := Ground.phase }, { on := 1, ground := Ground.phase }, { on := 2, ground := Ground.phase }, { on := 3, ground := Ground.phase }, { on := 4, ground := Ground.phase }, { on := 5, ground := Ground.phase }, { on := 6, ground := Ground.phase }, { on := 7, ground := Ground.phase }, { on := 8, ground := Ground.phase }, { on := 9, ground := Ground.phase }, { on := 10, ground := Ground.phase }, { on := 11, ground := Ground.phase }], guard := none }) (v := ?_) rfl (by kernel_rfl) (by kernel_rfl) (by kernel_rfl) (fun _ _ _ h => h) (Or.inl ⟨by rfl, ?hyrt2_57⟩) (by assumption) ?restrt2_57
            case hyrt2_57 => (intro w hSw; (try dsimp only at hSw); go_simp; try with_reducible rfl)
            try simp only [Act.put, List.setIfInBounds_toArray, List.set_cons_zero, List.set_cons_succ]
            refine wpAnyH_ready (rs := [14]) (by kernel_rfl) (by simp) (AllReadyH.cons (o := { dst := none, op := Op.store 56 (Operand.tmp 60) (Operand.tmp 58), type := 0, pos := "ref.go:36", after := #[{ on := 13, ground := Ground.data }, { on := 11, ground := Ground.data }, { on := 11, ground := Ground.chain }, { on := 0, ground := Ground.phase }, { on := 1, ground := Ground.phase }, { on := 2, ground := Ground.phase }, { on := 3, ground := Ground.phase }, { on := 4, ground := Ground.phase }, { on := 5, ground := Ground.phase }, { on := 6, ground := Ground.phase }, { on := 7, ground := Ground.phase }, { on := 8, ground := Ground.phase }, { on := 9, ground := Ground.phase }, { on := 10, ground := Ground.phase }, { on := 11, ground := Ground.phase }], guard := none }) rfl (fun K hK => ?_) AllReadyH.nil)
            refine step_nov rfl (exec_store 56 (.tmp 60) (.tmp 58) rfl ⟨g, 1, none⟩ rfl (.slice (some ⟨gh, 0, none⟩) (k + 1) ch) rfl (run_storeVar_cell (by kernel_rfl) f5 f5' rfl)) ?_
            refine hK.out _ _ (HCZ.out _ hV.base) (fun hHeld => ?_)
            clear hK K
            refine wpAnyH_done (by kernel_rfl) ?_ _
            have HV := Lib.hid hV
            clear hV hHeld hcz5 f5 f5' e5 hgm hcap hat6 hg6 hB5 hg5 hc1 hc2 hat hlt5 hczb hcza hcz4 hb63 hb80 hnews hnc hbW d1 d2 d3 hmk bb ba hgl HW
            go_wp2_with fail
            go_roundw
            case rel => exact ⟨k + 1, by omega, by go_num, _, _, _, _, HV.out⟩
            case measure => simp [intOf]; omega
          · refine step_run rfl (.slice (some ⟨w4.heap.size, 0, none⟩) z.toNat z.toNat) (exec_makeSlice 75 (.tmp 55) (.tmp 55) rfl (.int .i64 z) (.int .i64 z) _ rfl rfl hmk) ?_
            refine hK.out _ _ (hcza) (fun hHeld => ?_)
            clear hK K
            try simp only [Act.put, List.setIfInBounds_toArray, List.set_cons_zero, List.set_cons_succ]
            refine wpAnyH_ready (rs := [4, 10]) (by kernel_rfl) (by simp) (AllReadyH.cons (o := { dst := some 51, op := Op.load 56 (Operand.tmp 50), type := 56, pos := "ref.go:36", after := #[{ on := 3, ground := Ground.data }], guard := none }) rfl (fun K hK => ?_) (AllReadyH.cons (o := { dst := some 57, op := Op.buildSlice 56 1 #[(0, Operand.tmp 56)], type := 56, pos := "ref.go:36", after := #[{ on := 9, ground := Ground.data }], guard := none }) rfl (fun K hK => ?_) AllReadyH.nil))
            · refine step_run rfl vH (exec_load 56 (.tmp 50) rfl ⟨g, 1, none⟩ rfl _ (run_loadVar_cell Try.underlying56 rfl (by first | exact d1 | exact d2 | exact d3))) ?_
              refine hK.out _ _ (hHeld) (fun hHeld => ?_)
              clear hK K
              try simp only [Act.put, List.setIfInBounds_toArray, List.set_cons_zero, List.set_cons_succ]
              refine wpAnyH_ready (rs := [10]) (by kernel_rfl) (by simp) (AllReadyH.cons (o := { dst := some 57, op := Op.buildSlice 56 1 #[(0, Operand.tmp 56)], type := 56, pos := "ref.go:36", after := #[{ on := 9, ground := Ground.data }], guard := none }) rfl (fun K hK => ?_) AllReadyH.nil)
              go_simp
              refine hK.out _ _ (hczb) (fun hHeld => ?_)
              clear hK K
              try simp only [Act.put, List.setIfInBounds_toArray, List.set_cons_zero, List.set_cons_succ]
              refine wpAnyH_ready (rs := [11]) (by kernel_rfl) (by simp) (AllReadyH.cons (o := { dst := some 58, op := Op.call { callee := Callee.builtin Builtin.append, args := #[Operand.tmp 51, Operand.tmp 57], argTypes := #[56, 56] }, type := 56, pos := "ref.go:36", after := #[{ on := 4, ground := Ground.data }, { on := 10, ground := Ground.data }], guard := none }) rfl (fun K hK => ?_) AllReadyH.nil)
              refine step_append_buf rfl (.tmp 51) (.tmp 57) 56 rfl 75 (.slice none 0 0) 1 24 Try.underlying56 info75f rfl (by omega) vH k _ rfl hbW ⟨w4.heap.size + 1, 0, none⟩ 1 1 rfl [Value.slice (some ⟨w4.heap.size, 0, none⟩) z.toNat z.toNat] rfl hnews (by intro u hu; obtain rfl := List.mem_singleton.1 hu; rfl) (by omega) hb63 hb80 (fun gh ch w5 hB5 hg5 hc1 hc2 hat hlt5 => ?_)
              have hg6 : ((w4.drew.alloc (.cells (List.replicate z.toNat (Value.slice none 0 0)).toArray 22)).alloc (.cells #[.slice (some ⟨w4.heap.size, 0, none⟩) z.toNat z.toNat] 75)).grownBy w5 (bufBlock vH) := hg5
              have hat6 : bufBlock vH = some gh ∨ gh = ((w4.drew.alloc (.cells (List.replicate z.toNat (Value.slice none 0 0)).toArray 22)).alloc (.cells #[.slice (some ⟨w4.heap.size, 0, none⟩) z.toNat z.toNat] 75)).heap.size := hat
              have hcap : 0 < ch := by omega
              have hV := HW.out.addHas hlt (by rw [EZ.out]; exact ⟨hz1, hz2⟩) bb hcap (Nat.le_refl _) (by rw [EZ.out]; exact hnc) (by rw [EZ.out]; exact hB5) hg6 hat6
              have hgm : some g ≠ bufBlock vH := fun e => (List.nodup_cons.1 HW.out.nodup).1 (by simp [← e])
              have e5 := ((hg6.block g (by have := bb.size; omega) hgm).trans (bb.block g hgl)).trans HW.out.blk
              have f5 : w5.cell? ⟨g, 1, none⟩ = some vH := cells_at e5 1
              have f5' : w5.frozen? ⟨g, 1, none⟩ = false := frozen_at e5 1
              have hcz5 : w5.cell? ⟨b, o + k, none⟩ = some (.int .i64 z) := (World.cell?_of_block (a := ⟨b, o + k, none⟩) (hg6.block b (by have := bb.size; have := HW.out.base.size; omega) (fun e => by have := HW.out.new b (by simp [← e]); omega))).trans hczb
              refine hK.out _ _ (hcz5) (fun hHeld => ?_)
              clear hK K
              try simp only [Act.put, List.setIfInBounds_toArray, List.set_cons_zero, List.set_cons_succ]
              refine wpAnyH_take (i := 12) (oi := { dst := some 59, op := Op.nilCheck (Operand.tmp 47), type := 0, pos := "ref.go:36", after := #[{ on := 0, ground := Ground.data }, { on := 0, ground := Ground.phase }, { on := 1, ground := Ground.phase }, { on := 2, ground := Ground.phase }, { on := 3, ground := Ground.phase }, { on := 4, ground := Ground.phase }, { on := 5, ground := Ground.phase }, { on := 6, ground := Ground.phase }, { on := 7, ground := Ground.phase }, { on := 8, ground := Ground.phase }, { on := 9, ground := Ground.phase }, { on := 10, ground := Ground.phase }, { on := 11, ground := Ground.phase }], guard := none }) (v := ?_) rfl (by kernel_rfl) (by kernel_rfl) (by kernel_rfl) (fun _ _ _ h => h) (Or.inl ⟨by rfl, ?hyrt2_99⟩) (by assumption) ?restrt2_99
              case hyrt2_99 => (intro w hSw; (try dsimp only at hSw); go_simp; try with_reducible rfl)
              try simp only [Act.put, List.setIfInBounds_toArray, List.set_cons_zero, List.set_cons_succ]
              refine wpAnyH_take (i := 13) (oi := { dst := some 60, op := Op.fieldAddr 59 (Operand.tmp 59) 1, type := 0, pos := "ref.go:36", after := #[{ on := 12, ground := Ground.data }, { on := 0, ground := Ground.phase }, { on := 1, ground := Ground.phase }, { on := 2, ground := Ground.phase }, { on := 3, ground := Ground.phase }, { on := 4, ground := Ground.phase }, { on := 5, ground := Ground.phase }, { on := 6, ground := Ground.phase }, { on := 7, ground := Ground.phase }, { on := 8, ground := Ground.phase }, { on := 9, ground := Ground.phase }, { on := 10, ground := Ground.phase }, { on := 11, ground := Ground.phase }], guard := none }) (v := ?_) rfl (by kernel_rfl) (by kernel_rfl) (by kernel_rfl) (fun _ _ _ h => h) (Or.inl ⟨by rfl, ?hyrt2_102⟩) (by assumption) ?restrt2_102
              case hyrt2_102 => (intro w hSw; (try dsimp only at hSw); go_simp; try with_reducible rfl)
              try simp only [Act.put, List.setIfInBounds_toArray, List.set_cons_zero, List.set_cons_succ]
              refine wpAnyH_ready (rs := [14]) (by kernel_rfl) (by simp) (AllReadyH.cons (o := { dst := none, op := Op.store 56 (Operand.tmp 60) (Operand.tmp 58), type := 0, pos := "ref.go:36", after := #[{ on := 13, ground := Ground.data }, { on := 11, ground := Ground.data }, { on := 11, ground := Ground.chain }, { on := 0, ground := Ground.phase }, { on := 1, ground := Ground.phase }, { on := 2, ground := Ground.phase }, { on := 3, ground := Ground.phase }, { on := 4, ground := Ground.phase }, { on := 5, ground := Ground.phase }, { on := 6, ground := Ground.phase }, { on := 7, ground := Ground.phase }, { on := 8, ground := Ground.phase }, { on := 9, ground := Ground.phase }, { on := 10, ground := Ground.phase }, { on := 11, ground := Ground.phase }], guard := none }) rfl (fun K hK => ?_) AllReadyH.nil)
              refine step_nov rfl (exec_store 56 (.tmp 60) (.tmp 58) rfl ⟨g, 1, none⟩ rfl (.slice (some ⟨gh, 0, none⟩) (k + 1) ch) rfl (run_storeVar_cell (by kernel_rfl) f5 f5' rfl)) ?_
              refine hK.out _ _ (HCZ.out _ hV.base) (fun hHeld => ?_)
              clear hK K
              refine wpAnyH_done (by kernel_rfl) ?_ _
              have HV := Lib.hid hV
              clear hV hHeld hcz5 f5 f5' e5 hgm hcap hat6 hg6 hB5 hg5 hc1 hc2 hat hlt5 hczb hcza hcz4 hb63 hb80 hnews hnc hbW d1 d2 d3 hmk bb ba hgl HW
              go_wp2_with fail
              go_roundw
              case rel => exact ⟨k + 1, by omega, by go_num, _, _, _, _, HV.out⟩
              case measure => simp [intOf]; omega
            · go_simp
              refine hK.out _ _ (hczb) (fun hHeld => ?_)
              clear hK K
              try simp only [Act.put, List.setIfInBounds_toArray, List.set_cons_zero, List.set_cons_succ]
              refine wpAnyH_ready (rs := [4]) (by kernel_rfl) (by simp) (AllReadyH.cons (o := { dst := some 51, op := Op.load 56 (Operand.tmp 50), type := 56, pos := "ref.go:36", after := #[{ on := 3, ground := Ground.data }], guard := none }) rfl (fun K hK => ?_) AllReadyH.nil)
              refine step_run rfl vH (exec_load 56 (.tmp 50) rfl ⟨g, 1, none⟩ rfl _ (run_loadVar_cell Try.underlying56 rfl (by first | exact d1 | exact d2 | exact d3))) ?_
              refine hK.out _ _ (hHeld) (fun hHeld => ?_)
              clear hK K
              try simp only [Act.put, List.setIfInBounds_toArray, List.set_cons_zero, List.set_cons_succ]
              refine wpAnyH_ready (rs := [11]) (by kernel_rfl) (by simp) (AllReadyH.cons (o := { dst := some 58, op := Op.call { callee := Callee.builtin Builtin.append, args := #[Operand.tmp 51, Operand.tmp 57], argTypes := #[56, 56] }, type := 56, pos := "ref.go:36", after := #[{ on := 4, ground := Ground.data }, { on := 10, ground := Ground.data }], guard := none }) rfl (fun K hK => ?_) AllReadyH.nil)
              refine step_append_buf rfl (.tmp 51) (.tmp 57) 56 rfl 75 (.slice none 0 0) 1 24 Try.underlying56 info75f rfl (by omega) vH k _ rfl hbW ⟨w4.heap.size + 1, 0, none⟩ 1 1 rfl [Value.slice (some ⟨w4.heap.size, 0, none⟩) z.toNat z.toNat] rfl hnews (by intro u hu; obtain rfl := List.mem_singleton.1 hu; rfl) (by omega) hb63 hb80 (fun gh ch w5 hB5 hg5 hc1 hc2 hat hlt5 => ?_)
              have hg6 : ((w4.drew.alloc (.cells (List.replicate z.toNat (Value.slice none 0 0)).toArray 22)).alloc (.cells #[.slice (some ⟨w4.heap.size, 0, none⟩) z.toNat z.toNat] 75)).grownBy w5 (bufBlock vH) := hg5
              have hat6 : bufBlock vH = some gh ∨ gh = ((w4.drew.alloc (.cells (List.replicate z.toNat (Value.slice none 0 0)).toArray 22)).alloc (.cells #[.slice (some ⟨w4.heap.size, 0, none⟩) z.toNat z.toNat] 75)).heap.size := hat
              have hcap : 0 < ch := by omega
              have hV := HW.out.addHas hlt (by rw [EZ.out]; exact ⟨hz1, hz2⟩) bb hcap (Nat.le_refl _) (by rw [EZ.out]; exact hnc) (by rw [EZ.out]; exact hB5) hg6 hat6
              have hgm : some g ≠ bufBlock vH := fun e => (List.nodup_cons.1 HW.out.nodup).1 (by simp [← e])
              have e5 := ((hg6.block g (by have := bb.size; omega) hgm).trans (bb.block g hgl)).trans HW.out.blk
              have f5 : w5.cell? ⟨g, 1, none⟩ = some vH := cells_at e5 1
              have f5' : w5.frozen? ⟨g, 1, none⟩ = false := frozen_at e5 1
              have hcz5 : w5.cell? ⟨b, o + k, none⟩ = some (.int .i64 z) := (World.cell?_of_block (a := ⟨b, o + k, none⟩) (hg6.block b (by have := bb.size; have := HW.out.base.size; omega) (fun e => by have := HW.out.new b (by simp [← e]); omega))).trans hczb
              refine hK.out _ _ (hcz5) (fun hHeld => ?_)
              clear hK K
              try simp only [Act.put, List.setIfInBounds_toArray, List.set_cons_zero, List.set_cons_succ]
              refine wpAnyH_take (i := 12) (oi := { dst := some 59, op := Op.nilCheck (Operand.tmp 47), type := 0, pos := "ref.go:36", after := #[{ on := 0, ground := Ground.data }, { on := 0, ground := Ground.phase }, { on := 1, ground := Ground.phase }, { on := 2, ground := Ground.phase }, { on := 3, ground := Ground.phase }, { on := 4, ground := Ground.phase }, { on := 5, ground := Ground.phase }, { on := 6, ground := Ground.phase }, { on := 7, ground := Ground.phase }, { on := 8, ground := Ground.phase }, { on := 9, ground := Ground.phase }, { on := 10, ground := Ground.phase }, { on := 11, ground := Ground.phase }], guard := none }) (v := ?_) rfl (by kernel_rfl) (by kernel_rfl) (by kernel_rfl) (fun _ _ _ h => h) (Or.inl ⟨by rfl, ?hyrt2_139⟩) (by assumption) ?restrt2_139
              case hyrt2_139 => (intro w hSw; (try dsimp only at hSw); go_simp; try with_reducible rfl)
              try simp only [Act.put, List.setIfInBounds_toArray, List.set_cons_zero, List.set_cons_succ]
              refine wpAnyH_take (i := 13) (oi := { dst := some 60, op := Op.fieldAddr 59 (Operand.tmp 59) 1, type := 0, pos := "ref.go:36", after := #[{ on := 12, ground := Ground.data }, { on := 0, ground := Ground.phase }, { on := 1, ground := Ground.phase }, { on := 2, ground := Ground.phase }, { on := 3, ground := Ground.phase }, { on := 4, ground := Ground.phase }, { on := 5, ground := Ground.phase }, { on := 6, ground := Ground.phase }, { on := 7, ground := Ground.phase }, { on := 8, ground := Ground.phase }, { on := 9, ground := Ground.phase }, { on := 10, ground := Ground.phase }, { on := 11, ground := Ground.phase }], guard := none }) (v := ?_) rfl (by kernel_rfl) (by kernel_rfl) (by kernel_rfl) (fun _ _ _ h => h) (Or.inl ⟨by rfl, ?hyrt2_142⟩) (by assumption) ?restrt2_142
              case hyrt2_142 => (intro w hSw; (try dsimp only at hSw); go_simp; try with_reducible rfl)
              try simp only [Act.put, List.setIfInBounds_toArray, List.set_cons_zero, List.set_cons_succ]
              refine wpAnyH_ready (rs := [14]) (by kernel_rfl) (by simp) (AllReadyH.cons (o := { dst := none, op := Op.store 56 (Operand.tmp 60) (Operand.tmp 58), type := 0, pos := "ref.go:36", after := #[{ on := 13, ground := Ground.data }, { on := 11, ground := Ground.data }, { on := 11, ground := Ground.chain }, { on := 0, ground := Ground.phase }, { on := 1, ground := Ground.phase }, { on := 2, ground := Ground.phase }, { on := 3, ground := Ground.phase }, { on := 4, ground := Ground.phase }, { on := 5, ground := Ground.phase }, { on := 6, ground := Ground.phase }, { on := 7, ground := Ground.phase }, { on := 8, ground := Ground.phase }, { on := 9, ground := Ground.phase }, { on := 10, ground := Ground.phase }, { on := 11, ground := Ground.phase }], guard := none }) rfl (fun K hK => ?_) AllReadyH.nil)
              refine step_nov rfl (exec_store 56 (.tmp 60) (.tmp 58) rfl ⟨g, 1, none⟩ rfl (.slice (some ⟨gh, 0, none⟩) (k + 1) ch) rfl (run_storeVar_cell (by kernel_rfl) f5 f5' rfl)) ?_
              refine hK.out _ _ (HCZ.out _ hV.base) (fun hHeld => ?_)
              clear hK K
              refine wpAnyH_done (by kernel_rfl) ?_ _
              have HV := Lib.hid hV
              clear hV hHeld hcz5 f5 f5' e5 hgm hcap hat6 hg6 hB5 hg5 hc1 hc2 hat hlt5 hczb hcza hcz4 hb63 hb80 hnews hnc hbW d1 d2 d3 hmk bb ba hgl HW
              go_wp2_with fail
              go_roundw
              case rel => exact ⟨k + 1, by omega, by go_num, _, _, _, _, HV.out⟩
              case measure => simp [intOf]; omega
      · have hbad : mayB zs = false := by
          cases hmb : mayB zs with
          | false => rfl
          | true =>
            simp only [mayB, Bool.and_eq_true, List.all_eq_true, decide_eq_true_eq] at hmb
            have := hmb.2 zs[k] (List.getElem_mem hlt)
            rw [ez] at this
            exact absurd this hz
        have HBAD := Lib.hid hbad
        have R9 := Lib.hid hR.base
        clear hR hcz ez hbad
        by_cases hz1 : z < 1
        · go_wp2_with fail
          go_ret2
          exact .inl ⟨HBAD.out, rfl, R9.out⟩
        · have hz2 : (65536 : Int) < z := by omega
          go_wp2_with fail
          go_ret2
          exact .inl ⟨HBAD.out, rfl, R9.out⟩
    · obtain rfl : k = zs.length := by omega
      have hlt' : ¬ (zs.length : Int) < zs.length := by omega
      have HR := Lib.hid hr
      clear hr
      have hok : mayB zs = true := by
        obtain ⟨vM, vH, hv, hbs, hR⟩ := HR.out
        simp only [mayB, Bool.and_eq_true, List.all_eq_true, decide_eq_true_eq]
        refine ⟨⟨hz0, hz4⟩, fun x hx => ?_⟩
        obtain ⟨i, hi, rfl⟩ := List.getElem_of_mem hx
        have := hR.disks i (by rw [hR.lb]; exact hi) hi
        exact ⟨this.1, this.2.1⟩
      have HOK := Lib.hid hok
      clear hok
      go_wp2_with fail
      go_ret2
      exact .inr ⟨HOK.out, g, rfl, HR.out⟩
/-- What the reference's New answers. -/
def RNewAt (zs : List Int) (w : World) (e : Ending) (w' : World) : Prop :=
  Below w.heap.size w w' ∧ ((mayB zs = false ∧ e = .returned (.tuple #[.pointer none, .int .i64 30])) ∨ (mayB zs = true ∧ ∃ g, e = .returned (.tuple #[.pointer (some ⟨g, 0, none⟩), .int .i64 0]) ∧ RNew w g zs zs.length w'))
theorem RNew.base {w W : World} {g k : Nat} {zs : List Int} (h : RNew w g zs k W) : Below w.heap.size w W := by
  obtain ⟨_, _, _, _, h⟩ := h
  exact h.base
theorem rnew_any {w : World} {v : Value} {zs : List Int} (h : IntsAt w v zs) : Calls Try.prog 19 #[v] w (RNewAt zs w) := by
  by_cases h0 : zs.length = 0
  · obtain ⟨p, c, rfl⟩ := h.shape
    have hm : mayB zs = false := by simp [mayB, h0]
    rw [h0]
    have HM := Lib.hid hm
    clear hm h0 h
    go_enter Try.func19, Try.ntmps19
    go_wp2_with fail
    go_ret2
    exact ⟨Below.refl _ _, .inl ⟨HM.out, rfl⟩⟩
  · by_cases h4 : zs.length ≤ 4
    · obtain ⟨_, ⟨rfl, _⟩ | ⟨b, o, c, rfl, hb, hc⟩⟩ := h
      · simp at h0
      · refine (rnew_in h0 h4 hb hc).mono ?_
        rintro e w' (⟨h1, h2, h3⟩ | ⟨h1, g, h2, h3⟩)
        · exact ⟨h3, .inl ⟨h1, h2⟩⟩
        · exact ⟨h3.base, .inr ⟨h1, g, h2, h3⟩⟩
    · obtain ⟨p, c, rfl⟩ := h.shape
      have hm : mayB zs = false := by simp [mayB]; omega
      have HM := Lib.hid hm
      have h2 : ((zs.length : Int) == 0) = false := by simp; intro e; simp [e] at h4
      have h3 : decide ((4 : Int) < (zs.length : Int)) = true := by simp; omega
      have h5 : (4 : Int) < (zs.length : Int) := by omega
      clear hm h0 h h4
      go_enter Try.func19, Try.ntmps19
      go_wp2_with fail
      go_ret2
      exact ⟨Below.refl _ _, .inl ⟨HM.out, rfl⟩⟩
end Go.Proofs.Ytpnijopbbbgffaa.plantw
