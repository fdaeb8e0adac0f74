/- Walks of layer 3: Write. Conditions: as each theorem says. -/
import Derived.Test.YtpnijopbbbgffaaPlantR
import Derived.Deep.RegionLaw
import Derived.Deep.AppendLies
namespace Go.Proofs.Ytpnijopbbbgffaa.plantw
open Go.RowKit
open Go.Proofs.Ytpnijopbbbgffaa.plantp
open Go.Proofs.Ytpnijopbbbgffaa.mapfn
open Go.Proofs.Ytpnijopbbbgffaa.buf
/-- Bytes in a row of their own. -/
def BytesAt (w : World) (v : Value) (h : Nat) (b : Sec) : Prop := ∃ c, v = .slice (some ⟨h, 0, none⟩) b.length c ∧ w.heap[h]? = some (.cells (secA b) 5 (0, 0)) ∧ b.length ≤ c ∧ c ≤ maxLen
theorem info72f : (Try.prog.info? 72).map (fun i => (i.zero, i.size, i.bytes)) = some (some (.agg z66), 66, 80) := by kernel_rfl
theorem wt_zero (d k : Nat) : (z66.setIfInBounds 0 (.int .i64 (d : Int))).setIfInBounds 1 (.int .i64 (k : Int)) = wtA ⟨d, k, zeroS⟩ := by rfl
/-- A sector's bytes copied into a new write. -/
theorem copy72 {w : World} {hh : Nat} {b : Sec} (d k : Nat) (hb : w.heap[hh]? = some (.cells (secA b) 5 (0, 0))) (hb64 : b.length = 64) (cb : Nat) :
    (Builtin.copy_ #[22, 22] 3 #[.slice (some ⟨w.heap.size, 2, none⟩) 64 64, .slice (some ⟨hh, 0, none⟩) 64 cb]).run Try.prog (w.alloc (.cells (wtA ⟨d, k, zeroS⟩) 72)) =
      .ok (.int .i64 64) (w.alloc (.cells (wtA ⟨d, k, b⟩) 72)) := by
  have hlt : hh < w.heap.size := (Array.getElem?_eq_some_iff.1 hb).1
  have e : ((secA b).toList).length = 64 := by simp [secA, hb64]
  have := run_copy_row (P := Try.prog) (w.alloc (.cells (wtA ⟨d, k, zeroS⟩) 72)) 22 22 3 5 w.heap.size 2 64 64 ⟨hh, 0, none⟩ 64 cb _ _ (secA b).toList Try.underlying22 (by kernel_rfl) (heap_alloc_last _ _) (by simp [secA, hb64]) (fun j v hv => by
    have hadd : (⟨hh, 0, none⟩ : Addr).add j = ⟨hh, j, none⟩ := by unfold Addr.add; split <;> simp_all
    rw [hadd, cells_at ((Below.heap_alloc w _ _ hlt).trans hb)]
    simpa using hv) (by rw [e, wtA_size _ (by rfl)]; decide) (fun v hv => (Array.all_eq_true_iff_forall_mem.1 (secA_one b)) v (by simpa using hv))
  rw [this, World.setRow_alloc_new]
  congr 1
  · rw [e]; rfl
  · congr 2
    apply Array.ext'
    rw [e]
    simp [wtA, wtL, secA, zeroS]
/-- What a Write that is done leaves. -/
def WriteIn (w : World) (g : Nat) (v0 v1 : Value) (fuse steps : Int) (l : List Wt) (x : Wt) (w' : World) : Prop :=
  ∃ v1', Blk w' g v0 v1' false (if 0 < fuse then fuse - 1 else fuse) (steps + 1) ∧ Buf w' 72 66 v1' (l.length + 1) ((l ++ [x]).flatMap wtL) ∧
    (bufBlock v1' = bufBlock v1 ∨ ∃ k, bufBlock v1' = some k ∧ w.heap.size ≤ k) ∧ Turn (g :: (bufBlock v1).toList) w w'
theorem write_fin {w w2 w3 : World} {g gg cap : Nat} {v0 v1 : Value} {fuse steps : Int} {l : List Wt} {x : Wt} {o1 o2 : Obj} (hb2 : Blk w2 g v0 v1 false (if 0 < fuse then fuse - 1 else fuse) (steps + 1)) (ht : Touch g w w2)
    (hg3 : (((w2.alloc o1).drew).alloc o2).grownBy w3 (bufBlock v1)) (hvg : bufBlock v1 ≠ some g) (hB3 : Buf w3 72 66 (.slice (some ⟨gg, 0, none⟩) (l.length + 1) cap) (l.length + 1) (l.flatMap wtL ++ (wtA x).toList)) (hc : l.length + 1 ≤ cap)
    (hat : bufBlock v1 = some gg ∨ gg = (((w2.alloc o1).drew).alloc o2).heap.size) : WriteIn w g v0 v1 fuse steps l x (w3.setCell ⟨g, 1, none⟩ (.slice (some ⟨gg, 0, none⟩) (l.length + 1) cap)) := by
  have hgl : g < w2.heap.size := hb2.lt
  have hb3 : Blk w3 g v0 v1 false (if 0 < fuse then fuse - 1 else fuse) (steps + 1) := by
    refine hb2.kept ?_
    rw [hg3.block g (by simp; omega) (fun e => hvg e.symm), Below.heap_alloc _ _ _ (by simp; omega)]
    exact Below.heap_alloc _ _ _ hgl
  have hne : gg ≠ g := by
    rcases hat with h | h
    · exact fun e => hvg (by rw [h, e])
    · intro e
      rw [e] at h
      simp at h
      omega
  refine ⟨_, hb3.waits _, ?_, ?_, ?_⟩
  · have e : (l ++ [x]).flatMap wtL = l.flatMap wtL ++ (wtA x).toList := by simp [wtA]
    rw [e]
    refine hB3.kept fun k hk => Below.heap_setCell _ _ _ _ ?_
    have : gg = k := by simp [bufBlock] at hk; exact hk.2
    simp
    omega
  · rcases hat with h | h
    · left
      rw [h]
      simp [bufBlock]
      omega
    · right
      refine ⟨gg, by simp [bufBlock]; omega, ?_⟩
      have := ht.size
      simp at h
      omega
  · refine Turn.set ?_ (.inl (by simp)) _ _
    refine Turn.grown ?_ hg3 fun k hk => .inl (by simp [hk])
    exact ((Turn.of_touch ht (by simp)).alloc _).drew.alloc _
set_option maxHeartbeats 4000000 in
set_option maxRecDepth 100000 in
theorem write_in {w : World} {g : Nat} {v0 v1 : Value} {fuse steps : Int} {most ms : List Nat} (h : Blk w g v0 v1 false fuse steps) (hd : Disks w v0 most ms) (i : Nat) (place : Nat) (hth : thereB most i place = true)
    (hf : -1 ≤ fuse ∧ fuse ≤ 9223372036854775807) (hs : 0 ≤ steps ∧ steps < 9223372036854775807) (hf0 : (fuse != 0) = true)
    (l : List Wt) (hbuf : Buf w 72 66 v1 l.length (l.flatMap wtL)) (b : Sec) (hb64 : b.length = 64) (hh : Nat) (cb : Nat) (hb : w.heap[hh]? = some (.cells (secA b) 5 (0, 0))) (hhg : hh ≠ g) (hlen : l.length < 1099511627776) (hvg : bufBlock v1 ≠ some g) :
    Calls Try.prog 12 #[.pointer (some ⟨g, 0, none⟩), .int .i64 i, .int .i64 place, .slice (some ⟨hh, 0, none⟩) 64 cb] w fun e w' => e = .returned (.int .i64 0) ∧ WriteIn w g v0 v1 fuse steps l ⟨i, place, b⟩ w' := by
  have HT := Lib.hid (there_any h hd i place)
  rw [hth] at HT
  have HST := Lib.hid (step_any h hf hs)
  have HF : Hid (¬ fuse = 0) := Lib.hid (by simpa using hf0)
  rw [hf0] at HST
  obtain ⟨⟨c0, c1, c2, c3, c4⟩, _⟩ := h.cells
  have HH := Lib.hid h
  clear h hth hf0
  go_enter Try.func12, Try.ntmps12
  go_wp2_with fail
  refine HT.out.mono ?_
  rintro e w1 ⟨rfl, rfl⟩
  go_wp2_with fail
  refine HST.out.mono ?_
  rintro e w2 ⟨rfl, ht, hb2⟩
  have hz := zero72 w2
  clear c0 c1 c2 c3 c4
  rw [if_neg HF.out] at hb2
  have HB2 := Lib.hid hb2
  clear hb2
  have hwz := wt_zero i place
  have sz := wtA_size ⟨i, place, zeroS⟩ (by rfl)
  have hst := store72_new (w := w2) _ sz (wtA_one _)
  have hbw : w2.heap[hh]? = some (.cells (secA b) 5 (0, 0)) := (ht.block hh (Array.getElem?_eq_some_iff.1 hb).1 hhg).trans hb
  have hcp := copy72 (w := w2) i place hbw hb64 cb
  clear hb hbw
  have HB := Lib.hid hb64
  clear hb64
  go_wp2_with fail
  have hgl : g < w2.heap.size := HB2.out.lt
  have c1 := HB2.out.cells.1.2.1
  have d1 : (World.drew (w2.alloc (.cells (wtA ⟨i, place, b⟩) 72))).cell? ⟨g, 1, none⟩ = some v1 := (World.cell?_of_block (w := w2) (Below.heap_alloc w2 _ g hgl)).trans c1
  have d2 : ((World.drew (w2.alloc (.cells (wtA ⟨i, place, b⟩) 72))).alloc (.cells (wtA ⟨i, place, b⟩) 72)).cell? ⟨g, 1, none⟩ = some v1 := (World.cell?_of_block (w := World.drew (w2.alloc (.cells (wtA ⟨i, place, b⟩) 72))) (Below.heap_alloc _ _ g (by simp; omega))).trans d1
  have sz1 : (wtA ⟨i, place, b⟩).size = 66 := wtA_size _ HB.out
  have hl1 : (loadVar 72 ⟨w2.heap.size, 0, none⟩).run Try.prog (World.drew (w2.alloc (.cells (wtA ⟨i, place, b⟩) 72))) = .ok (.agg (wtA ⟨i, place, b⟩)) (World.drew (w2.alloc (.cells (wtA ⟨i, place, b⟩) 72))) :=
    run_loadVar_from (n := 66) Try.underlying72 rfl info72 sz1 fun j v hv => by
      rw [cells_at (w := World.drew (w2.alloc (.cells (wtA ⟨i, place, b⟩) 72))) (heap_alloc_last w2 _)]
      simpa using hv
  have hbW : Buf ((World.drew (w2.alloc (.cells (wtA ⟨i, place, b⟩) 72))).alloc (.cells (wtA ⟨i, place, b⟩) 72)) 72 66 v1 l.length (l.flatMap wtL) := hbuf.kept fun k hk => by
    have hlt := hbuf.lt k hk
    have hsz := ht.size
    rw [Below.heap_alloc _ _ _ (by simp; omega)]
    refine (Below.heap_alloc w2 _ _ (by omega)).trans (ht.block k hlt ?_)
    exact fun e => hvg (by rw [hk, e])
  have hnews : ∀ (j : Nat) (u : Value), (wtA ⟨i, place, b⟩).toList[j]? = some u → ((World.drew (w2.alloc (.cells (wtA ⟨i, place, b⟩) 72))).alloc (.cells (wtA ⟨i, place, b⟩) 72)).cell? ((⟨(World.drew (w2.alloc (.cells (wtA ⟨i, place, b⟩) 72))).heap.size, 0, none⟩ : Addr).add j) = some u := World.news_of_block (heap_alloc_last _ _)
  have hgc : ∀ w3 : World, ((World.drew (w2.alloc (.cells (wtA ⟨i, place, b⟩) 72))).alloc (.cells (wtA ⟨i, place, b⟩) 72)).grownBy w3 (bufBlock v1) → w3.cell? ⟨g, 1, none⟩ = some v1 ∧ w3.frozen? ⟨g, 1, none⟩ = false := fun w3 hg => by
    have hb := hg.block g (by simp; omega) (fun e => hvg e.symm)
    refine ⟨(World.cell?_of_block (a := ⟨g, 1, none⟩) hb).trans d2, (World.frozen?_of_block (a := ⟨g, 1, none⟩) hb).trans ?_⟩
    refine (World.frozen?_of_block (w := World.drew (w2.alloc (.cells (wtA ⟨i, place, b⟩) 72))) (a := ⟨g, 1, none⟩) (Below.heap_alloc _ _ g (by simp; omega))).trans ?_
    exact (World.frozen?_of_block (w := w2) (a := ⟨g, 1, none⟩) (Below.heap_alloc w2 _ g hgl)).trans HB2.out.cells.2.2.1
  refine wp_region_any (by kernel_rfl) ?_
  change wpAny _ _ _ _ _ _ _ (World.drew _)
  refine wpAny_take (i := 0) (oi := { dst := some 36, op := Op.move (Operand.tmp 0), type := 24, pos := "plant.go:108", after := #[], guard := none }) (v := ?_) rfl (by kernel_rfl) (by kernel_rfl) (by kernel_rfl) (fun _ _ _ h => h) (Or.inl ⟨by rfl, ?hy2⟩) ?rest2
  case hy2 => (intro w; go_simp; try with_reducible rfl)
  try simp only [Act.put, List.setIfInBounds_toArray, List.set_cons_zero, List.set_cons_succ]
  refine wpAny_take (i := 1) (oi := { dst := some 37, op := Op.move (Operand.tmp 0), type := 24, pos := "plant.go:108", after := #[], guard := none }) (v := ?_) rfl (by kernel_rfl) (by kernel_rfl) (by kernel_rfl) (fun _ _ _ h => h) (Or.inl ⟨by rfl, ?hy5⟩) ?rest5
  case hy5 => (intro w; go_simp; try with_reducible rfl)
  try simp only [Act.put, List.setIfInBounds_toArray, List.set_cons_zero, List.set_cons_succ]
  refine wpAny_take (i := 2) (oi := { dst := some 38, op := Op.nilCheck (Operand.tmp 37), type := 0, pos := "plant.go:108", after := #[{ on := 1, ground := Ground.data }], guard := none }) (v := ?_) rfl (by kernel_rfl) (by kernel_rfl) (by kernel_rfl) (fun _ _ _ h => h) (Or.inl ⟨by rfl, ?hy8⟩) ?rest8
  case hy8 => (intro w; go_simp; try with_reducible rfl)
  try simp only [Act.put, List.setIfInBounds_toArray, List.set_cons_zero, List.set_cons_succ]
  refine wpAny_take (i := 3) (oi := { dst := some 39, op := Op.fieldAddr 64 (Operand.tmp 38) 1, type := 0, pos := "plant.go:108", after := #[{ on := 2, ground := Ground.data }], guard := none }) (v := ?_) rfl (by kernel_rfl) (by kernel_rfl) (by kernel_rfl) (fun _ _ _ h => h) (Or.inl ⟨by rfl, ?hy11⟩) ?rest11
  case hy11 => (intro w; go_simp; try with_reducible rfl)
  try simp only [Act.put, List.setIfInBounds_toArray, List.set_cons_zero, List.set_cons_succ]
  refine wpAny_ready (rs := [4, 5]) (by kernel_rfl) (by simp) (AllReady.cons (o := { dst := some 40, op := Op.load 62 (Operand.tmp 39), type := 62, pos := "plant.go:108", after := #[{ on := 3, ground := Ground.data }], guard := none }) rfl (fun K hK => ?_) (AllReady.cons (o := { dst := some 41, op := Op.load 72 (Operand.tmp 9), type := 72, pos := "plant.go:108", after := #[], guard := none }) rfl (fun K hK => ?_) AllReady.nil))
  · refine step_run rfl v1 (exec_load 62 (.tmp 39) rfl ⟨g, 1, none⟩ rfl _ (run_loadVar_cell Try.underlying62 rfl (by first | exact d1 | exact d2))) ?_
    refine hK _ _ ?_
    clear hK K
    try simp only [Act.put, List.setIfInBounds_toArray, List.set_cons_zero, List.set_cons_succ]
    refine wpAny_ready (rs := [5]) (by kernel_rfl) (by simp) (AllReady.cons (o := { dst := some 41, op := Op.load 72 (Operand.tmp 9), type := 72, pos := "plant.go:108", after := #[], guard := none }) rfl (fun K hK => ?_) AllReady.nil)
    refine step_run rfl (.agg (wtA ⟨i, place, b⟩)) (exec_load 72 (.tmp 9) rfl ⟨w2.heap.size, 0, none⟩ rfl _ hl1) ?_
    refine hK _ _ ?_
    clear hK K
    try simp only [Act.put, List.setIfInBounds_toArray, List.set_cons_zero, List.set_cons_succ]
    refine wpAny_ready (rs := [6]) (by kernel_rfl) (by simp) (AllReady.cons (o := { dst := some 42, op := Op.buildSlice 62 1 #[(0, Operand.tmp 41)], type := 62, pos := "plant.go:108", after := #[{ on := 5, ground := Ground.data }], guard := none }) rfl (fun K hK => ?_) AllReady.nil)
    refine step_run rfl _ (exec_buildSlice_one 62 72 (.tmp 41) rfl _ 66 80 Try.underlying62 info72f (by omega) (wtA ⟨i, place, b⟩) rfl sz1) ?_
    refine hK _ _ ?_
    clear hK K
    try simp only [Act.put, List.setIfInBounds_toArray, List.set_cons_zero, List.set_cons_succ]
    refine wpAny_ready (rs := [7]) (by kernel_rfl) (by simp) (AllReady.cons (o := { dst := some 43, op := Op.call { callee := Callee.builtin Builtin.append, args := #[Operand.tmp 40, Operand.tmp 42], argTypes := #[62, 62] }, type := 62, pos := "plant.go:108", after := #[{ on := 4, ground := Ground.data }, { on := 6, ground := Ground.data }], guard := none }) rfl (fun K hK => ?_) AllReady.nil)
    refine step_append_buf rfl (.tmp 40) (.tmp 42) 62 rfl 72 _ 66 80 Try.underlying62 info72f rfl (by omega) v1 l.length _ rfl hbW ⟨(World.drew (w2.alloc (.cells (wtA ⟨i, place, b⟩) 72))).heap.size, 0, none⟩ 1 1 rfl (wtA ⟨i, place, b⟩).toList (by simp [sz1]) hnews (fun v hv => (Array.all_eq_true_iff_forall_mem.1 (wtA_one _)) v (by simpa using hv)) (by omega) (by simp only [maxLen]; omega) (by omega) ?_
    intro gg cap w3 hB3 hg3 hc1 _ hat _
    refine hK _ _ ?_
    clear hK K
    try simp only [Act.put, List.setIfInBounds_toArray, List.set_cons_zero, List.set_cons_succ]
    refine wpAny_take (i := 8) (oi := { dst := some 44, op := Op.nilCheck (Operand.tmp 36), type := 0, pos := "plant.go:108", after := #[{ on := 0, ground := Ground.data }, { on := 0, ground := Ground.phase }, { on := 1, ground := Ground.phase }, { on := 2, ground := Ground.phase }, { on := 3, ground := Ground.phase }, { on := 4, ground := Ground.phase }, { on := 5, ground := Ground.phase }, { on := 6, ground := Ground.phase }, { on := 7, ground := Ground.phase }], guard := none }) (v := ?_) rfl (by kernel_rfl) (by kernel_rfl) (by kernel_rfl) (fun _ _ _ h => h) (Or.inl ⟨by rfl, ?hy35⟩) ?rest35
    case hy35 => (intro w; go_simp; try with_reducible rfl)
    try simp only [Act.put, List.setIfInBounds_toArray, List.set_cons_zero, List.set_cons_succ]
    refine wpAny_take (i := 9) (oi := { dst := some 45, op := Op.fieldAddr 64 (Operand.tmp 44) 1, type := 0, pos := "plant.go:108", after := #[{ on := 8, ground := Ground.data }, { on := 0, ground := Ground.phase }, { on := 1, ground := Ground.phase }, { on := 2, ground := Ground.phase }, { on := 3, ground := Ground.phase }, { on := 4, ground := Ground.phase }, { on := 5, ground := Ground.phase }, { on := 6, ground := Ground.phase }, { on := 7, ground := Ground.phase }], guard := none }) (v := ?_) rfl (by kernel_rfl) (by kernel_rfl) (by kernel_rfl) (fun _ _ _ h => h) (Or.inl ⟨by rfl, ?hy38⟩) ?rest38
    case hy38 => (intro w; go_simp; try with_reducible rfl)
    try simp only [Act.put, List.setIfInBounds_toArray, List.set_cons_zero, List.set_cons_succ]
    refine wpAny_ready (rs := [10]) (by kernel_rfl) (by simp) (AllReady.cons (o := { dst := none, op := Op.store 62 (Operand.tmp 45) (Operand.tmp 43), type := 0, pos := "plant.go:108", after := #[{ on := 9, ground := Ground.data }, { on := 7, ground := Ground.data }, { on := 7, ground := Ground.chain }, { on := 0, ground := Ground.phase }, { on := 1, ground := Ground.phase }, { on := 2, ground := Ground.phase }, { on := 3, ground := Ground.phase }, { on := 4, ground := Ground.phase }, { on := 5, ground := Ground.phase }, { on := 6, ground := Ground.phase }, { on := 7, ground := Ground.phase }], guard := none }) rfl (fun K hK => ?_) AllReady.nil)
    refine step_nov rfl (exec_store 62 (.tmp 45) (.tmp 43) rfl ⟨g, 1, none⟩ rfl _ rfl (run_storeVar_cell (by kernel_rfl) (hgc _ hg3).1 (hgc _ hg3).2 rfl)) ?_
    refine hK _ _ ?_
    clear hK K
    refine wpAny_done (by kernel_rfl) ?_ _
    go_wp2_with fail
    go_ret
    exact ⟨rfl, write_fin HB2.out ht hg3 hvg hB3 hc1 hat⟩
  · refine step_run rfl (.agg (wtA ⟨i, place, b⟩)) (exec_load 72 (.tmp 9) rfl ⟨w2.heap.size, 0, none⟩ rfl _ hl1) ?_
    refine hK _ _ ?_
    clear hK K
    try simp only [Act.put, List.setIfInBounds_toArray, List.set_cons_zero, List.set_cons_succ]
    refine wpAny_ready (rs := [4, 6]) (by kernel_rfl) (by simp) (AllReady.cons (o := { dst := some 40, op := Op.load 62 (Operand.tmp 39), type := 62, pos := "plant.go:108", after := #[{ on := 3, ground := Ground.data }], guard := none }) rfl (fun K hK => ?_) (AllReady.cons (o := { dst := some 42, op := Op.buildSlice 62 1 #[(0, Operand.tmp 41)], type := 62, pos := "plant.go:108", after := #[{ on := 5, ground := Ground.data }], guard := none }) rfl (fun K hK => ?_) AllReady.nil))
    · refine step_run rfl v1 (exec_load 62 (.tmp 39) rfl ⟨g, 1, none⟩ rfl _ (run_loadVar_cell Try.underlying62 rfl (by first | exact d1 | exact d2))) ?_
      refine hK _ _ ?_
      clear hK K
      try simp only [Act.put, List.setIfInBounds_toArray, List.set_cons_zero, List.set_cons_succ]
      refine wpAny_ready (rs := [6]) (by kernel_rfl) (by simp) (AllReady.cons (o := { dst := some 42, op := Op.buildSlice 62 1 #[(0, Operand.tmp 41)], type := 62, pos := "plant.go:108", after := #[{ on := 5, ground := Ground.data }], guard := none }) rfl (fun K hK => ?_) AllReady.nil)
      refine step_run rfl _ (exec_buildSlice_one 62 72 (.tmp 41) rfl _ 66 80 Try.underlying62 info72f (by omega) (wtA ⟨i, place, b⟩) rfl sz1) ?_
      refine hK _ _ ?_
      clear hK K
      try simp only [Act.put, List.setIfInBounds_toArray, List.set_cons_zero, List.set_cons_succ]
      refine wpAny_ready (rs := [7]) (by kernel_rfl) (by simp) (AllReady.cons (o := { dst := some 43, op := Op.call { callee := Callee.builtin Builtin.append, args := #[Operand.tmp 40, Operand.tmp 42], argTypes := #[62, 62] }, type := 62, pos := "plant.go:108", after := #[{ on := 4, ground := Ground.data }, { on := 6, ground := Ground.data }], guard := none }) rfl (fun K hK => ?_) AllReady.nil)
      refine step_append_buf rfl (.tmp 40) (.tmp 42) 62 rfl 72 _ 66 80 Try.underlying62 info72f rfl (by omega) v1 l.length _ rfl hbW ⟨(World.drew (w2.alloc (.cells (wtA ⟨i, place, b⟩) 72))).heap.size, 0, none⟩ 1 1 rfl (wtA ⟨i, place, b⟩).toList (by simp [sz1]) hnews (fun v hv => (Array.all_eq_true_iff_forall_mem.1 (wtA_one _)) v (by simpa using hv)) (by omega) (by simp only [maxLen]; omega) (by omega) ?_
      intro gg cap w3 hB3 hg3 hc1 _ hat _
      refine hK _ _ ?_
      clear hK K
      try simp only [Act.put, List.setIfInBounds_toArray, List.set_cons_zero, List.set_cons_succ]
      refine wpAny_take (i := 8) (oi := { dst := some 44, op := Op.nilCheck (Operand.tmp 36), type := 0, pos := "plant.go:108", after := #[{ on := 0, ground := Ground.data }, { on := 0, ground := Ground.phase }, { on := 1, ground := Ground.phase }, { on := 2, ground := Ground.phase }, { on := 3, ground := Ground.phase }, { on := 4, ground := Ground.phase }, { on := 5, ground := Ground.phase }, { on := 6, ground := Ground.phase }, { on := 7, ground := Ground.phase }], guard := none }) (v := ?_) rfl (by kernel_rfl) (by kernel_rfl) (by kernel_rfl) (fun _ _ _ h => h) (Or.inl ⟨by rfl, ?hy69⟩) ?rest69
      case hy69 => (intro w; go_simp; try with_reducible rfl)
      try simp only [Act.put, List.setIfInBounds_toArray, List.set_cons_zero, List.set_cons_succ]
      refine wpAny_take (i := 9) (oi := { dst := some 45, op := Op.fieldAddr 64 (Operand.tmp 44) 1, type := 0, pos := "plant.go:108", after := #[{ on := 8, ground := Ground.data }, { on := 0, ground := Ground.phase }, { on := 1, ground := Ground.phase }, { on := 2, ground := Ground.phase }, { on := 3, ground := Ground.phase }, { on := 4, ground := Ground.phase }, { on := 5, ground := Ground.phase }, { on := 6, ground := Ground.phase }, { on := 7, ground := Ground.phase }], guard := none }) (v := ?_) rfl (by kernel_rfl) (by kernel_rfl) (by kernel_rfl) (fun _ _ _ h => h) (Or.inl ⟨by rfl, ?hy72⟩) ?rest72
      case hy72 => (intro w; go_simp; try with_reducible rfl)
      try simp only [Act.put, List.setIfInBounds_toArray, List.set_cons_zero, List.set_cons_succ]
      refine wpAny_ready (rs := [10]) (by kernel_rfl) (by simp) (AllReady.cons (o := { dst := none, op := Op.store 62 (Operand.tmp 45) (Operand.tmp 43), type := 0, pos := "plant.go:108", after := #[{ on := 9, ground := Ground.data }, { on := 7, ground := Ground.data }, { on := 7, ground := Ground.chain }, { on := 0, ground := Ground.phase }, { on := 1, ground := Ground.phase }, { on := 2, ground := Ground.phase }, { on := 3, ground := Ground.phase }, { on := 4, ground := Ground.phase }, { on := 5, ground := Ground.phase }, { on := 6, ground := Ground.phase }, { on := 7, ground := Ground.phase }], guard := none }) rfl (fun K hK => ?_) AllReady.nil)
      refine step_nov rfl (exec_store 62 (.tmp 45) (.tmp 43) rfl ⟨g, 1, none⟩ rfl _ rfl (run_storeVar_cell (by kernel_rfl) (hgc _ hg3).1 (hgc _ hg3).2 rfl)) ?_
      refine hK _ _ ?_
      clear hK K
      refine wpAny_done (by kernel_rfl) ?_ _
      go_wp2_with fail
      go_ret
      exact ⟨rfl, write_fin HB2.out ht hg3 hvg hB3 hc1 hat⟩
    · refine step_run rfl _ (exec_buildSlice_one 62 72 (.tmp 41) rfl _ 66 80 Try.underlying62 info72f (by omega) (wtA ⟨i, place, b⟩) rfl sz1) ?_
      refine hK _ _ ?_
      clear hK K
      try simp only [Act.put, List.setIfInBounds_toArray, List.set_cons_zero, List.set_cons_succ]
      refine wpAny_ready (rs := [4]) (by kernel_rfl) (by simp) (AllReady.cons (o := { dst := some 40, op := Op.load 62 (Operand.tmp 39), type := 62, pos := "plant.go:108", after := #[{ on := 3, ground := Ground.data }], guard := none }) rfl (fun K hK => ?_) AllReady.nil)
      refine step_run rfl v1 (exec_load 62 (.tmp 39) rfl ⟨g, 1, none⟩ rfl _ (run_loadVar_cell Try.underlying62 rfl (by first | exact d1 | exact d2))) ?_
      refine hK _ _ ?_
      clear hK K
      try simp only [Act.put, List.setIfInBounds_toArray, List.set_cons_zero, List.set_cons_succ]
      refine wpAny_ready (rs := [7]) (by kernel_rfl) (by simp) (AllReady.cons (o := { dst := some 43, op := Op.call { callee := Callee.builtin Builtin.append, args := #[Operand.tmp 40, Operand.tmp 42], argTypes := #[62, 62] }, type := 62, pos := "plant.go:108", after := #[{ on := 4, ground := Ground.data }, { on := 6, ground := Ground.data }], guard := none }) rfl (fun K hK => ?_) AllReady.nil)
      refine step_append_buf rfl (.tmp 40) (.tmp 42) 62 rfl 72 _ 66 80 Try.underlying62 info72f rfl (by omega) v1 l.length _ rfl hbW ⟨(World.drew (w2.alloc (.cells (wtA ⟨i, place, b⟩) 72))).heap.size, 0, none⟩ 1 1 rfl (wtA ⟨i, place, b⟩).toList (by simp [sz1]) hnews (fun v hv => (Array.all_eq_true_iff_forall_mem.1 (wtA_one _)) v (by simpa using hv)) (by omega) (by simp only [maxLen]; omega) (by omega) ?_
      intro gg cap w3 hB3 hg3 hc1 _ hat _
      refine hK _ _ ?_
      clear hK K
      try simp only [Act.put, List.setIfInBounds_toArray, List.set_cons_zero, List.set_cons_succ]
      refine wpAny_take (i := 8) (oi := { dst := some 44, op := Op.nilCheck (Operand.tmp 36), type := 0, pos := "plant.go:108", after := #[{ on := 0, ground := Ground.data }, { on := 0, ground := Ground.phase }, { on := 1, ground := Ground.phase }, { on := 2, ground := Ground.phase }, { on := 3, ground := Ground.phase }, { on := 4, ground := Ground.phase }, { on := 5, ground := Ground.phase }, { on := 6, ground := Ground.phase }, { on := 7, ground := Ground.phase }], guard := none }) (v := ?_) rfl (by kernel_rfl) (by kernel_rfl) (by kernel_rfl) (fun _ _ _ h => h) (Or.inl ⟨by rfl, ?hy98⟩) ?rest98
      case hy98 => (intro w; go_simp; try with_reducible rfl)
      try simp only [Act.put, List.setIfInBounds_toArray, List.set_cons_zero, List.set_cons_succ]
      refine wpAny_take (i := 9) (oi := { dst := some 45, op := Op.fieldAddr 64 (Operand.tmp 44) 1, type := 0, pos := "plant.go:108", after := #[{ on := 8, ground := Ground.data }, { on := 0, ground := Ground.phase }, { on := 1, ground := Ground.phase }, { on := 2, ground := Ground.phase }, { on := 3, ground := Ground.phase }, { on := 4, ground := Ground.phase }, { on := 5, ground := Ground.phase }, { on := 6, ground := Ground.phase }, { on := 7, ground := Ground.phase }], guard := none }) (v := ?_) rfl (by kernel_rfl) (by kernel_rfl) (by kernel_rfl) (fun _ _ _ h => h) (Or.inl ⟨by rfl, ?hy101⟩) ?rest101
      case hy101 => (intro w; go_simp; try with_reducible rfl)
      try simp only [Act.put, List.setIfInBounds_toArray, List.set_cons_zero, List.set_cons_succ]
      refine wpAny_ready (rs := [10]) (by kernel_rfl) (by simp) (AllReady.cons (o := { dst := none, op := Op.store 62 (Operand.tmp 45) (Operand.tmp 43), type := 0, pos := "plant.go:108", after := #[{ on := 9, ground := Ground.data }, { on := 7, ground := Ground.data }, { on := 7, ground := Ground.chain }, { on := 0, ground := Ground.phase }, { on := 1, ground := Ground.phase }, { on := 2, ground := Ground.phase }, { on := 3, ground := Ground.phase }, { on := 4, ground := Ground.phase }, { on := 5, ground := Ground.phase }, { on := 6, ground := Ground.phase }, { on := 7, ground := Ground.phase }], guard := none }) rfl (fun K hK => ?_) AllReady.nil)
      refine step_nov rfl (exec_store 62 (.tmp 45) (.tmp 43) rfl ⟨g, 1, none⟩ rfl _ rfl (run_storeVar_cell (by kernel_rfl) (hgc _ hg3).1 (hgc _ hg3).2 rfl)) ?_
      refine hK _ _ ?_
      clear hK K
      refine wpAny_done (by kernel_rfl) ?_ _
      go_wp2_with fail
      go_ret
      exact ⟨rfl, write_fin HB2.out ht hg3 hvg hB3 hc1 hat⟩

theorem Blk.inj {w : World} {g : Nat} {v0 v1 u0 u1 : Value} {off off' : Bool} {fuse steps fuse' steps' : Int} (h : Blk w g v0 v1 off fuse steps) (k : Blk w g u0 u1 off' fuse' steps') : u0 = v0 ∧ u1 = v1 := by
  have := h.symm.trans k
  simp at this
  exact ⟨this.1.symm, this.2.1.symm⟩
/-- What a call that writes leaves: the plant turned, in its own blocks or new ones; nothing else. -/
def Left (w : World) (g : Nat) (p' : PS) (O : List Nat) (w' : World) : Prop := ∃ O', IsP w' g p' O' ∧ Turn O w w' ∧ ∀ k ∈ O', k ∈ O ∨ w.heap.size ≤ k
theorem Left.same {w : World} {g : Nat} {p : PS} {O : List Nat} (h : IsP w g p O) : Left w g p O w := ⟨O, h, Turn.refl _ _, fun _ hk => .inl hk⟩
theorem IsP.mem {w : World} {g : Nat} {p : PS} {O : List Nat} (h : IsP w g p O) : g ∈ O := by
  obtain ⟨hok, dk, cd, D, v1, ms, h1, h2, h3, h4, h5, h6, h7, h8, rfl, h10⟩ := h
  simp
/-- The plant's own block turned, its disks and what waits left alone. -/
theorem IsP.reblk {w w' : World} {g : Nat} {p : PS} {O : List Nat} (h : IsP w g p O) {v0 v1 : Value} {off' : Bool} {fuse' steps' : Int} (ht : Touch g w w') (hB : Blk w g v0 v1 p.off p.fuse p.steps) (hB' : Blk w' g v0 v1 off' fuse' steps') (hs : p.steps ≤ steps') (hf : -1 ≤ fuse' ∧ fuse' ≤ 9223372036854775807) :
    IsP w' g { p with off := off', fuse := fuse', steps := steps' } O := by
  obtain ⟨hok, dk, cd, D, u1, ms, h1, h2, h3, h4, h5, h6, h7, h8, rfl, h10⟩ := h
  obtain ⟨rfl, rfl⟩ := hB.inj h1
  have hnd := h10
  simp only [List.nodup_cons, List.mem_cons, List.mem_append, not_or] at hnd
  have blk : ∀ k, k ≠ g → k < w.heap.size → w'.heap[k]? = w.heap[k]? := fun k hk hlt => ht.block k hlt hk
  refine ⟨⟨hok.disks, hok.most, hok.sec, hok.wait, hf, by have := hok.steps; show 0 ≤ steps'; omega⟩, dk, cd, D, _, ms, hB', h2, h3, (blk dk (fun e => hnd.1.1 e.symm) (Array.getElem?_eq_some_iff.1 h4).1).trans h4, h5, h6, fun i hi hi' => ?_, h8.kept fun k hk => blk k (fun e => hnd.1.2.1 (by rw [← e]; simpa using hk)) (h8.lt k hk), rfl, h10⟩
  obtain ⟨a, b, s, f, c, d, e⟩ := h7 i hi hi'
  exact ⟨a, b, s, f, c.block (blk _ (fun e => hnd.1.2.2 (by rw [← e]; simp)) c.lt), by show (s : Int) + p.waits.length ≤ steps'; omega, e⟩
theorem step_off {w : World} {g : Nat} {v0 v1 : Value} {off : Bool} {fuse steps : Int} (h : Blk w g v0 v1 off fuse steps) (hf : fuse = 0) (hs : 0 ≤ steps ∧ steps < 9223372036854775807) :
    Calls Try.prog 33 #[.pointer (some ⟨g, 0, none⟩)] w fun e w' => e = .returned (.bool false) ∧ Touch g w w' ∧ Hid (Blk w' g v0 v1 true (-1) steps) := by
  subst hf
  exact (step_any h (by omega) hs).mono fun e w' ⟨h1, h2, h3⟩ => ⟨by simpa using h1, h2, by simpa using Lib.hid h3⟩
/-- What waits, one write more: the plant as a whole. -/
theorem write_left {w : World} {g : Nat} {p : PS} {O : List Nat} (h : IsP w g p O) {v0 v1 : Value} (hB : Blk w g v0 v1 p.off p.fuse p.steps) (hoff : p.off = false) {x : Wt} (hx : x.b.length = 64 ∧ ∃ n, p.most[x.dev]? = some n ∧ x.place < n) {w' : World}
    (hw : WriteIn w g v0 v1 p.fuse p.steps p.waits x w') : Left w g ({ p with fuse := if 0 < p.fuse then p.fuse - 1 else p.fuse, steps := p.steps + 1 }.wait x.dev x.place x.b) O w' := by
  have hP := Lib.hid h
  obtain ⟨hok, dk, cd, D, u1, ms, h1, h2, h3, h4, h5, h6, h7, h8, rfl, h10⟩ := h
  obtain ⟨rfl, rfl⟩ := hB.inj h1
  obtain ⟨v1', a1, a2, a3, a4⟩ := hw
  have hnd := h10
  simp only [List.nodup_cons, List.mem_cons, List.mem_append, not_or] at hnd
  have hw0 := hok.fuse
  have hs0 := hok.steps
  have blk : ∀ k, k ≠ g → bufBlock u1 ≠ some k → k < w.heap.size → w'.heap[k]? = w.heap[k]? := fun k hk hk' hlt => a4.block k hlt (by simp; exact ⟨hk, hk'⟩)
  have hltO := hP.out.lt
  refine ⟨g :: dk :: ((bufBlock v1').toList ++ ms), ⟨⟨hok.disks, hok.most, hok.sec, ?_, ?_, by show 0 ≤ p.steps + 1; omega⟩, dk, cd, D, v1', ms, ?_, h2, h3, (blk dk (fun e => hnd.1.1 e.symm) (fun e => hnd.2.1.1 (by simp [e])) (Array.getElem?_eq_some_iff.1 h4).1).trans h4, h5, h6, fun i hi hi' => ?_, ?_, rfl, ?_⟩, a4.mono ?_, ?_⟩
  · intro y hy
    rcases List.mem_append.1 hy with hy | hy
    · exact hok.wait y hy
    · simp at hy
      subst hy
      exact hx
  · show -1 ≤ (if 0 < p.fuse then p.fuse - 1 else p.fuse) ∧ (if 0 < p.fuse then p.fuse - 1 else p.fuse) ≤ 9223372036854775807
    split <;> omega
  · show Blk w' g _ v1' p.off _ _
    rw [hoff]
    exact a1
  · obtain ⟨x1, x2, s, f, c, y1, y2⟩ := h7 i hi hi'
    refine ⟨x1, x2, s, f, c.block (blk _ (fun e => hnd.1.2.2 (by rw [← e]; simp)) (fun e => ?_) c.lt), ?_, y2⟩
    · have := (List.nodup_append.1 hnd.2.2).2.2 (ms[i]) (by simp [e]) (ms[i]) (by simp)
      exact this rfl
    · show (s : Int) + ((p.waits ++ [x]).length : Nat) ≤ p.steps + 1
      have e : (p.waits ++ [x]).length = p.waits.length + 1 := by simp
      rw [e]
      omega
  · show Buf w' 72 66 v1' (p.waits ++ [x]).length ((p.waits ++ [x]).flatMap wtL)
    have e : (p.waits ++ [x]).length = p.waits.length + 1 := by simp
    rw [e]
    exact a2
  · rcases a3 with a3 | ⟨kk, a3, a5⟩
    · rw [a3]; exact h10
    · have nn : ∀ k ∈ g :: dk :: ((bufBlock u1).toList ++ ms), k ≠ kk := fun k hk e => by have := hltO k hk; omega
      rw [a3]
      simp only [Option.toList_some, List.cons_append, List.nil_append, List.nodup_cons, List.mem_cons, not_or]
      exact ⟨⟨hnd.1.1, nn g (by simp), hnd.1.2.2⟩, ⟨nn dk (by simp), hnd.2.1.2⟩, fun hm => nn kk (by simp [hm]) rfl, (List.nodup_append.1 hnd.2.2).2.1⟩
  · intro k hk
    rcases List.mem_cons.1 hk with hk | hk
    · exact List.mem_cons.2 (.inl hk)
    · exact List.mem_cons_of_mem _ (List.mem_cons_of_mem _ (List.mem_append_left _ hk))
  · intro k hk
    rcases a3 with a3 | ⟨kk, a3, a5⟩
    · rw [a3] at hk; exact .inl hk
    · rcases List.mem_cons.1 hk with hk | hk
      · exact .inl (List.mem_cons.2 (.inl hk))
      rcases List.mem_cons.1 hk with hk | hk
      · exact .inl (List.mem_cons_of_mem _ (List.mem_cons.2 (.inl hk)))
      rcases List.mem_append.1 hk with hk | hk
      · rw [a3] at hk
        simp at hk
        exact .inr (by omega)
      · exact .inl (List.mem_cons_of_mem _ (List.mem_cons_of_mem _ (List.mem_append_right _ hk)))
set_option maxHeartbeats 1000000 in
theorem write_any {w : World} {g : Nat} {p : PS} {O : List Nat} (h : IsP w g p O) (dev place : Int) (b : Sec) (hh cb : Nat) (hb : w.heap[hh]? = some (.cells (secA b) 5 (0, 0))) (hO : hh ∉ O) (hst : p.steps < 1099511627776) :
    Calls Try.prog 12 #[.pointer (some ⟨g, 0, none⟩), .int .i64 dev, .int .i64 place, .slice (some ⟨hh, 0, none⟩) b.length cb] w fun e w' => e = .returned (.int .i64 (p.write dev place b).2) ∧ Left w g (p.write dev place b).1 O w' := by
  have hP := Lib.hid h
  obtain ⟨hok, dk, cd, D, v1, ms, h1, h2, h3, h4, h5, h6, h7, h8, rfl, h10⟩ := h
  have hD := disks_of h4 h2 h6 (fun i h h' => ⟨(h7 i h h').1, (h7 i h h').2.1⟩)
  have hw0 := hok.fuse
  have hs0 := hok.steps
  have hnd := h10
  simp only [List.nodup_cons, List.mem_cons, List.mem_append, not_or] at hnd
  by_cases ho : p.off = true
  · have he : p.write dev place b = (p, 2) := by simp [PS.write, ho]
    rw [he]
    rw [ho] at h1
    obtain ⟨⟨c0, c1, c2, c3, c4⟩, _⟩ := h1.cells
    clear he ho h1 h7 hnd hO
    go_enter Try.func12, Try.ntmps12
    go_wp2_with fail
    go_ret
    exact ⟨rfl, Left.same hP.out⟩
  · have ho' : p.off = false := by simpa using ho
    have h1' := Lib.hid h1
    rw [ho'] at h1
    have HT := there_any h1 hD dev place
    by_cases ht : p.thereB dev place = true
    · have ht' : thereB p.most dev place = true := by simpa [thereB, PS.thereB] using ht
      by_cases hl : b.length = 64
      · by_cases hf : p.fuse = 0
        · have he : p.write dev place b = (p.step.1, 2) := by simp [PS.write, ho', ht, hl, hf]
          have hstep : p.step.1 = { p with off := true, fuse := -1 } := by simp [PS.step, hf]
          rw [he, hstep]
          have HST := Lib.hid (step_off h1 hf ⟨hs0, by omega⟩)
          rw [ht'] at HT
          have HT' := Lib.hid HT
          obtain ⟨⟨c0, c1, c2, c3, c4⟩, _⟩ := h1.cells
          have HL := Lib.hid hl
          rw [hl]
          clear he ho ho' h1 h7 hnd hO ht ht' HT hf hl hstep hD hb
          go_enter Try.func12, Try.ntmps12
          go_wp2_with fail
          refine HT'.out.mono ?_
          rintro e w1 ⟨rfl, rfl⟩
          go_wp2_with fail
          refine HST.out.mono ?_
          rintro e w2 ⟨rfl, htt, HB2⟩
          clear c0 c1 c2 c3 c4
          go_wp2_with fail
          go_ret
          exact ⟨rfl, _, hP.out.reblk htt h1'.out HB2.out (Int.le_refl _) (by omega), Turn.of_touch htt (by simp), fun _ hk => .inl hk⟩
        · have he : p.write dev place b = (p.step.1.wait dev.toNat place.toNat b, 0) := by simp [PS.write, ho', ht, hl, hf]
          obtain ⟨d, k, rfl, rfl, hd, hk⟩ := PS.there_iff ht
          have hstep : p.step.1 = { p with fuse := if 0 < p.fuse then p.fuse - 1 else p.fuse, steps := p.steps + 1 } := by simp [PS.step, hf]
          rw [he, hstep, hl]
          have hbg : bufBlock v1 ≠ some g := fun e => hnd.1.2.1 (by simp [e])
          have hlen : p.waits.length < 1099511627776 := by
            obtain ⟨_, _, s, f, _, hs, _⟩ := h7 0 hok.disks.1 (by have := hok.disks.1; omega)
            omega
          refine (write_in h1 hD d k ht' hw0 ⟨hs0, by omega⟩ (by simpa using hf) p.waits h8 b hl hh cb hb (fun e => hO (by simp [e])) hlen hbg).mono ?_
          rintro e w' ⟨rfl, hW⟩
          exact ⟨rfl, write_left hP.out h1'.out ho' ⟨hl, p.most[d], by simp [hd], by simpa using hk⟩ hW⟩
      · have he : p.write dev place b = (p, 32) := by simp [PS.write, ho', ht, hl]
        rw [he]
        rw [ht'] at HT
        have HT' := Lib.hid HT
        obtain ⟨⟨c0, c1, c2, c3, c4⟩, _⟩ := h1.cells
        have hl2 : ((b.length : Int) == 64) = false := by simpa using (by omega : ¬ (b.length : Int) = 64)
        have hl3 : ((b.length : Int) != 64) = true := by simpa using (by omega : ¬ (b.length : Int) = 64)
        clear he ho ho' h1 h7 hnd hO ht ht' HT hD hb hl
        go_enter Try.func12, Try.ntmps12
        go_wp2_with fail
        refine HT'.out.mono ?_
        rintro e w1 ⟨rfl, rfl⟩
        go_wp2_with fail
        go_ret
        exact ⟨rfl, Left.same hP.out⟩
    · have he : p.write dev place b = (p, 31) := by simp [PS.write, ho', ht]
      rw [he]
      have ht' : thereB p.most dev place = false := by simpa [thereB, PS.thereB] using ht
      rw [ht'] at HT
      have HT' := Lib.hid HT
      obtain ⟨⟨c0, c1, c2, c3, c4⟩, _⟩ := h1.cells
      clear he ho ho' h1 h7 hnd hO ht ht' HT hD hb
      go_enter Try.func12, Try.ntmps12
      go_wp2_with fail
      refine HT'.out.mono ?_
      rintro e w1 ⟨rfl, rfl⟩
      go_wp2_with fail
      go_ret
      exact ⟨rfl, Left.same hP.out⟩
end Go.Proofs.Ytpnijopbbbgffaa.plantw
