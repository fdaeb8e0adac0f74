/- Walks of layer 3: Boot. Conditions: as each theorem says. -/
import Derived.Test.YtpnijopbbbgffaaPlantZ
namespace Go.Proofs.Ytpnijopbbbgffaa.plantw
open Go.RowKit
open Go.Proofs.Ytpnijopbbbgffaa.plantp
open Go.Proofs.Ytpnijopbbbgffaa.mapfn
open Go.Proofs.Ytpnijopbbbgffaa.buf
/-- Each disk's map holds what has says; it has no more entries than c. -/
def MapsAt (w : World) (most ms : List Nat) (has : Nat → Nat → Sec) (c : Int) : Prop :=
  ∀ i (_h : i < most.length) (h' : i < ms.length), ∃ s f, MapFn secE Try.prog 3 w ms[i] s f ∧ (s : Int) ≤ c ∧ ∀ k : Nat, k < most[i] → (f (.int .i64 k)).getD zeroS = has i k
theorem i64_and3 (n : Int) : bits .and .i64 n 3 = n % 4 := by
  have h3 : (BitVec.ofInt 64 3).toNat = 2 ^ 2 - 1 := by decide
  have key : (BitVec.ofInt 64 n &&& BitVec.ofInt 64 3).toNat = (n % ((2 ^ 64 : Nat) : Int)).toNat % 2 ^ 2 := by
    rw [BitVec.toNat_and, BitVec.toNat_ofInt, h3, Nat.and_two_pow_sub_one_eq_mod]
  show IntKind.i64.wrap ((BitVec.ofInt 64 n &&& BitVec.ofInt 64 3).toNat : Nat) = n % 4
  rw [key, IntKind.wrap_i64]
  omega
/-- Behind what Boot reads: the write's box, the sector's. -/
def BT (wr W : World) (x : Wt) (b' : Sec) : Prop := Turn [] wr W ∧ W.heap[wr.heap.size]? = some (.cells (wtA x) 72 (0, 0)) ∧ W.heap[wr.heap.size + 1]? = some (.cells (secA b') 70 (0, 0))
theorem BT.start (wr : World) (x : Wt) (bs : Sec) : BT wr ((wr.alloc (.cells (wtA x) 72)).alloc (.cells (secA bs) 70)) x bs := by
  refine ⟨((Turn.refl _ _).alloc _).alloc _, (Below.heap_alloc _ _ _ (by simp)).trans (heap_alloc_last _ _), ?_⟩
  have := heap_alloc_last (wr.alloc (.cells (wtA x) 72)) (.cells (secA bs) 70)
  simpa using this
theorem BT.drew {wr W : World} {x : Wt} {b : Sec} (h : BT wr W x b) : BT wr W.drew x b := ⟨h.1.drew, h.2⟩
theorem BT.put {wr W : World} {x : Wt} {b b' : Sec} (h : BT wr W x b) : BT wr (W.setRow (wr.heap.size + 1) (secA b')) x b' :=
  ⟨h.1.setRow (.inr (by omega)) _, (setRow_other _ _ _ _ (by omega)).trans h.2.1, setRow_block h.2.2⟩
theorem lo_half (x b : Sec) (hx : x.length = 64) : ((secA b).toList.take 0 ++ (secA (x.take 32)).toList ++ (secA b).toList.drop (0 + (secA (x.take 32)).toList.length)).toArray = secA (x.take 32 ++ b.drop 32) := by
  have e : (secA (x.take 32)).toList.length = 32 := by simp [secA, hx]
  rw [e]
  simp [secA]
theorem hi_half (x b : Sec) (hx : x.length = 64) (hb : b.length = 64) : ((secA b).toList.take 32 ++ (secA (x.drop 32)).toList ++ (secA b).toList.drop (32 + (secA (x.drop 32)).toList.length)).toArray = secA (b.take 32 ++ x.drop 32) := by
  have e : (secA (x.drop 32)).toList.length = 32 := by simp [secA, hx]
  rw [e]
  simp [secA, hb]
theorem lo_src {W : World} {bw : Nat} {x : Wt} {t : TypeId} {fr : Nat × Nat} (h : W.heap[bw]? = some (.cells (wtA x) t fr)) : ∀ j v, (secA (x.b.take 32)).toList[j]? = some v → W.cell? ⟨bw, 2 + j, none⟩ = some v := by
  intro j v hv
  rw [cells_at h]
  simp only [secA, List.toList_toArray, List.map_take, List.getElem?_take] at hv
  split at hv
  · simp [wtA, wtL, show 2 + j = j + 1 + 1 by omega]
    simpa using hv
  · cases hv
theorem hi_src {W : World} {bw : Nat} {x : Wt} {t : TypeId} {fr : Nat × Nat} (h : W.heap[bw]? = some (.cells (wtA x) t fr)) : ∀ j v, (secA (x.b.drop 32)).toList[j]? = some v → W.cell? ⟨bw, 34 + j, none⟩ = some v := by
  intro j v hv
  rw [cells_at h]
  simp only [secA, List.toList_toArray, List.map_drop, List.getElem?_drop] at hv
  simp [wtA, wtL, show 34 + j = 32 + j + 1 + 1 by omega]
  simpa using hv
theorem ints_ne {w : World} {b o m s : Nat} {f : Lit → Option Sec} {v : Value} (hc : w.cell? ⟨b, o, none⟩ = some v) (hM : MapFn secE Try.prog 3 w m s f) : b ≠ m := by
  rintro rfl
  obtain ⟨D, ⟨es, cl, h1, _⟩, _⟩ := hM
  simp [World.cell?, h1] at hc
/-- What a round of Boot reads. -/
def BootS (g dk n cd bw m : Nat) (x : Wt) (bs : Sec) (W : World) : Prop :=
  W.cell? ⟨g, 0, none⟩ = some (.slice (some ⟨dk, 0, none⟩) n cd) ∧ W.cell? ⟨bw, 0, none⟩ = some (.int .i64 x.dev) ∧ W.cell? ⟨bw, 1, none⟩ = some (.int .i64 x.place) ∧ W.cell? ⟨dk, x.dev * 2 + 1, none⟩ = some (.map (some m)) ∧
    (Instr.lookup 65 (.map (some m)) (.int .i64 x.place) false).run Try.prog W = .ok (.agg (secA bs)) W
set_option maxHeartbeats 4000000 in
set_option maxRecDepth 100000 in
theorem boot_in {w : World} {g dk cd : Nat} {v1 vk : Value} {off : Bool} {fuse steps : Int} {most ms : List Nat} {keep : List Int} (h : Blk w g (.slice (some ⟨dk, 0, none⟩) most.length cd) v1 off fuse steps) {D : Array Value} (h4 : w.heap[dk]? = some (.cells D 67 (0, 0))) (h6 : ms.length = most.length)
    (hD : ∀ i (_h : i < most.length) (h' : i < ms.length), D[i * 2 + 1]? = some (.map (some ms[i]))) {has : Nat → Nat → Sec} (hst : steps < 1099511627776)
    (l : List Wt) (hsec : ∀ d k, (has d k).length = 64) (hM : MapsAt w most ms has (steps - l.length)) (hl : ∀ x ∈ l, x.b.length = 64 ∧ ∃ n, most[x.dev]? = some n ∧ x.place < n ∧ n ≤ 65536) (hbuf : Buf w 72 66 v1 l.length (l.flatMap wtL)) (hnd : (g :: dk :: ((bufBlock v1).toList ++ ms)).Nodup)
    (hk : IntsAt w vk keep) :
    Calls Try.prog 14 #[.pointer (some ⟨g, 0, none⟩), vk] w fun e w' => e = .returned (.tuple #[]) ∧ Turn (g :: ms) w w' ∧ Blk w' g (.slice (some ⟨dk, 0, none⟩) most.length cd) (.slice none 0 0) false (-1) steps ∧ MapsAt w' most ms (bootAll keep 0 l has) steps := by
  obtain ⟨⟨c0, c1, c2, c3, c4⟩, _⟩ := h.cells
  have HB := Lib.hid h
  obtain ⟨pw, cw, rfl, hn, hcw⟩ := hbuf.shape
  obtain ⟨pk, ck, rfl⟩ := hk.shape
  have HR := Lib.hid hbuf
  unfold maxLen at hcw
  clear h hbuf
  by_cases hke : keep = []
  · subst hke
    go_enter Try.func14, Try.ntmps14
    go_wp2_with fail
    go_loopw [13] (fun k wr => ∃ j : Nat, j ≤ l.length ∧ k = .int .i64 j ∧ Turn ms w wr ∧ MapsAt wr most ms (bootAll [] 0 (l.take j) has) (steps - l.length + j)) (fun k _ => l.length - (intOf k).toNat)
    case atStart => exact ⟨0, by omega, rfl, Turn.refl _ _, by simpa [bootAll] using hM⟩
    case round =>
      obtain ⟨j, hj, rfl, ht, hMj⟩ := hrel
      have HMJ := Lib.hid hMj
      clear hMj
      by_cases hlt : j < l.length
      · obtain ⟨wk, cap, hv, hbk, hn', hcw', hld⟩ := Buf.load (HR.out.kept (w' := wr) fun k hk => ht.block k (HR.out.lt k hk) (fun hm => by
          have h1 := (List.nodup_append.1 (List.nodup_cons.1 (List.nodup_cons.1 hnd).2).2).2.2 k (by simp [hk]) k hm
          exact h1 rfl)) (fun x hx => (hl x hx).1) j hlt
        obtain ⟨rfl, rfl⟩ : pw = some ⟨wk, 0, none⟩ ∧ cw = cap := by simpa using hv
        obtain ⟨hx64, n, hxn, hxp, hn65⟩ := hl l[j] (by simp)
        obtain ⟨hdl, hxn2⟩ := List.getElem?_eq_some_iff.1 hxn
        have hdm : l[j].dev < ms.length := by omega
        obtain ⟨s, f, hMf, hs, hf⟩ := HMJ.out l[j].dev hdl hdm
        obtain ⟨x, hx⟩ : ∃ x, x = l[j] := ⟨_, rfl⟩
        obtain ⟨m, hm⟩ : ∃ m, m = ms[l[j].dev] := ⟨_, rfl⟩
        rw [← hm] at hMf
        have hDm := hD l[j].dev hdl hdm
        rw [← hm] at hDm
        have hmem : m ∈ ms := by rw [hm]; simp
        rw [hxn2] at hf
        rw [← hx] at hld hx64 hxp hf hdl hDm
        have HXM := Lib.hid (show m = ms[l[j].dev] ∧ x = l[j] ∧ most[l[j].dev] = n from ⟨hm, hx, hxn2⟩)
        have hdl' : (x.dev : Int) < (most.length : Int) := by omega
        have hdev0 : 0 ≤ (x.dev : Int) := by omega
        obtain ⟨bs, hbs0⟩ : ∃ bs, bs = bootAll [] 0 (l.take j) has x.dev x.place := ⟨_, rfl⟩
        have hfp := hf x.place hxp
        rw [← hbs0] at hfp
        have HBS0 := Lib.hid hbs0
        have hbs : Hid (bs.length = 64) := Lib.hid (by rw [hbs0]; exact bootAll_len [] _ 0 has hsec (fun y hy => (hl y (List.mem_of_mem_take hy)).1) _ _)
        have hlkW : ∀ W : World, W.heap[m]? = wr.heap[m]? → (Instr.lookup 65 (.map (some m)) (.int .i64 x.place) false).run Try.prog W = .ok (.agg (secA bs)) W := fun W hW => by
          have := (hMf.block hW).look (t := 65) keyed_int Try.underlying65 (zero70 W) (key_int x.place (by omega))
          rw [hfp] at this
          exact this
        have hml := hMf.lt
        have hgl : g < wr.heap.size := by have := HB.out.lt; have := ht.size; omega
        have hdkl : dk < w.heap.size := (Array.getElem?_eq_some_iff.1 h4).1
        have hdkr : dk < wr.heap.size := by have := ht.size; omega
        have hnd' := hnd
        simp only [List.nodup_cons, List.mem_cons, List.mem_append, not_or] at hnd'
        have gc : wr.cell? ⟨g, 0, none⟩ = some (.slice (some ⟨dk, 0, none⟩) most.length cd) := (World.cell?_of_block (a := ⟨g, 0, none⟩) (ht.block g HB.out.lt hnd'.1.2.2)).trans HB.out.cells.1.1
        have dc : wr.cell? ⟨dk, x.dev * 2 + 1, none⟩ = some (.map (some m)) := (World.cell?_of_block (a := ⟨dk, x.dev * 2 + 1, none⟩) (ht.block dk hdkl hnd'.2.1.2)).trans ((cells_at h4 _).trans hDm)
        have hz := zero72 wr
        have sz1 := wtA_size x hx64
        have hst1 := store72_new (w := wr) (wtA x) sz1 (wtA_one _)
        obtain ⟨q0, q1, q2⟩ := wt_cells (w := wr.alloc (.cells (wtA x) 72)) (g := wr.heap.size) (heap_alloc_last _ _) hx64
        have up : ∀ {W : World} {a : Addr} {v : Value} (o : Obj), W.cell? a = some v → (W.alloc o).cell? a = some v := fun {W a v} o h => (World.cell?_of_block (Below.heap_alloc W o _ (World.block_lt_of_cell? W _ h))).trans h
        have hS0 : BootS g dk most.length cd wr.heap.size m x bs (World.drew (wr.alloc (.cells (wtA x) 72))) := ⟨up (W := wr) _ gc, q0, q1, up (W := wr) _ dc, hlkW _ (Below.heap_alloc wr _ _ hml)⟩
        have hSA : ∀ o, BootS g dk most.length cd wr.heap.size m x bs ((World.drew (wr.alloc (.cells (wtA x) 72))).alloc o) := fun o => ⟨up o hS0.1, up o hS0.2.1, up o hS0.2.2.1, up o hS0.2.2.2.1, hlkW _ ((Below.heap_alloc _ o _ (by simp; omega)).trans (Below.heap_alloc wr _ _ hml))⟩
        have hi0 : 0 ≤ (j : Int) := by omega
        have T : Hid (∀ (W : World) (b' : Sec), b'.length = 64 → BT wr W x b' → W.drew.cell? ⟨g, 0, none⟩ = some (.slice (some ⟨dk, 0, none⟩) most.length cd) ∧ W.drew.cell? ⟨wr.heap.size, 0, none⟩ = some (.int .i64 x.dev) ∧ W.drew.cell? ⟨wr.heap.size, 1, none⟩ = some (.int .i64 x.place) ∧ W.drew.cell? ⟨dk, x.dev * 2 + 1, none⟩ = some (.map (some m)) ∧
            (loadVar 70 ⟨wr.heap.size + 1, 0, none⟩).run Try.prog W.drew = .ok (.agg (secA b')) W.drew ∧ MapFn secE Try.prog 3 W.drew m s f) := Lib.hid fun W b' hb' ⟨t1, t2, t3⟩ => by
          obtain ⟨p0, p1, _⟩ := wt_cells (w := W.drew) (g := wr.heap.size) t2 hx64
          refine ⟨(World.cell?_of_block (w := wr) (a := ⟨g, 0, none⟩) (t1.block g hgl (by simp))).trans gc, p0, p1, (World.cell?_of_block (w := wr) (a := ⟨dk, x.dev * 2 + 1, none⟩) (t1.block dk hdkr (by simp))).trans dc, ?_, hMf.block (t1.block m hml (by simp))⟩
          refine run_loadVar_from (n := 64) Try.underlying70 rfl info70 (by rw [secA_size, hb']) fun i v hv => ?_
          rw [cells_at (w := W.drew) t3]
          simpa using hv
        have RND : Hid (∀ (W w3 : World) (s3 : Nat), BT wr W x (mix (keepAt [] j) bs x.b) → MapFn secE Try.prog 3 w3 m s3 (upd f (.int .i64 x.place) (some (mix (keepAt [] j) bs x.b))) → s3 ≤ s + 1 → W.drew.grownBy w3 (some m) → Turn ms w w3 ∧ MapsAt w3 most ms (bootAll [] 0 (l.take (j + 1)) has) (steps - l.length + (j + 1 : Nat))) := Lib.hid fun W w3 s3 ⟨t1, _, _⟩ r2 r3 r4 => by
          obtain ⟨xm, xl, xn⟩ := HXM.out
          refine ⟨(ht.trans ((t1.mono (by simp)).drew)).grown r4 fun k hk => .inl (by simp at hk; subst hk; exact hmem), fun i hi hi' => ?_⟩
          rw [List.take_succ_eq_append_getElem hlt, bootAll_snoc]
          have e0 : 0 + (l.take j).length = j := by rw [List.length_take]; omega
          rw [e0, ← xl]
          by_cases e : i = x.dev
          · subst e
            have em : ms[x.dev] = m := by rw [xm]; congr 1; rw [xl]
            have en : most[x.dev] = n := by rw [← xn]; congr 1; rw [xl]
            refine ⟨s3, _, by rw [em]; exact r2, by push_cast; omega, fun k hk => ?_⟩
            rw [en] at hk
            by_cases ek : k = x.place
            · subst ek
              rw [upd_same]
              dsimp only
              rw [if_pos ⟨rfl, rfl⟩, HBS0.out]
              rfl
            · rw [upd_other (lit_ne ek)]
              dsimp only
              rw [if_neg (fun h => ek h.2)]
              exact hf k hk
          · obtain ⟨s', f', c1, c2, c3⟩ := HMJ.out i hi hi'
            have hne : ms[i] ≠ m := by
              rw [xm]
              intro h
              have := (List.getElem_inj (List.nodup_append.1 (List.nodup_cons.1 (List.nodup_cons.1 hnd).2).2).2.1).1 h
              rw [xl] at e
              exact e this
            refine ⟨s', f', c1.block ((r4.block ms[i] (by have := c1.lt; have := t1.size; show _ < W.heap.size; omega) (by simpa using hne)).trans (t1.block _ c1.lt (by simp))), by push_cast; omega, fun k hk => ?_⟩
            dsimp only
            rw [if_neg (fun h => e h.1)]
            exact c3 k hk
        clear hbk hn' hcw' hv hx hm hbs0 hxn hxn2 hfp up gc dc q0 q1 q2
        have hka : keepAt [] j = 0 := rfl
        have hm0 : mix (keepAt [] j) bs x.b = bs := by rw [hka]; rfl
        have hmix : Hid ((mix (keepAt [] j) bs x.b).length = 64) := Lib.hid (by rw [hm0]; exact hbs.out)
        have hBT := BT.start wr x bs
        have hBT0 : Hid (BT wr (((wr.alloc (.cells (wtA x) 72)).alloc (.cells (secA bs) 70)).drew) x (mix (keepAt [] j) bs x.b)) := Lib.hid (by rw [hm0]; exact hBT.drew)
        clear hka hm0
        go_wp2_with (first | (with_reducible refine wpList_load_at rfl 72 (.tmp 16) rfl _ rfl _ hld ?_))
        refine wp_region_held_drew (S := (BootS g dk most.length cd wr.heap.size m x bs)) (by kernel_rfl) (hS0) (fun hHeld => ?_)
        refine wpAnyH_take (i := 0) (oi := { dst := some 28, op := Op.move (Operand.tmp 0), type := 24, pos := "plant.go:148", after := #[], guard := none }) (v := ?_) rfl (by kernel_rfl) (by kernel_rfl) (by kernel_rfl) (fun _ _ _ h => h) (Or.inl ⟨by rfl, ?hyt1_1⟩) (by assumption) ?restt1_1
        case hyt1_1 => (intro w hSw; (try dsimp only at hSw); go_simp; try with_reducible rfl)
        try simp only [Act.put, List.setIfInBounds_toArray, List.set_cons_zero, List.set_cons_succ]
        refine wpAnyH_take (i := 1) (oi := { dst := some 29, op := Op.nilCheck (Operand.tmp 28), type := 0, pos := "plant.go:148", after := #[{ on := 0, ground := Ground.data }], guard := none }) (v := ?_) rfl (by kernel_rfl) (by kernel_rfl) (by kernel_rfl) (fun _ _ _ h => h) (Or.inl ⟨by rfl, ?hyt1_4⟩) (by assumption) ?restt1_4
        case hyt1_4 => (intro w hSw; (try dsimp only at hSw); go_simp; try with_reducible rfl)
        try simp only [Act.put, List.setIfInBounds_toArray, List.set_cons_zero, List.set_cons_succ]
        refine wpAnyH_take (i := 2) (oi := { dst := some 30, op := Op.fieldAddr 64 (Operand.tmp 29) 0, type := 0, pos := "plant.go:148", after := #[{ on := 1, ground := Ground.data }], guard := none }) (v := ?_) rfl (by kernel_rfl) (by kernel_rfl) (by kernel_rfl) (fun _ _ _ h => h) (Or.inl ⟨by rfl, ?hyt1_7⟩) (by assumption) ?restt1_7
        case hyt1_7 => (intro w hSw; (try dsimp only at hSw); go_simp; try with_reducible rfl)
        try simp only [Act.put, List.setIfInBounds_toArray, List.set_cons_zero, List.set_cons_succ]
        refine wpAnyH_take (i := 3) (oi := { dst := some 31, op := Op.load 61 (Operand.tmp 30), type := 61, pos := "plant.go:148", after := #[{ on := 2, ground := Ground.data }], guard := none }) (v := ?_) rfl (by kernel_rfl) (by kernel_rfl) (by kernel_rfl) (fun _ _ _ h => h) (Or.inl ⟨by rfl, ?hyt1_10⟩) (by assumption) ?restt1_10
        case hyt1_10 => (intro w hSw; obtain ⟨s1, s2, s3, s4, s5⟩ := hSw; go_simp; try with_reducible rfl)
        try simp only [Act.put, List.setIfInBounds_toArray, List.set_cons_zero, List.set_cons_succ]
        refine wpAnyH_take (i := 4) (oi := { dst := some 32, op := Op.fieldAddr 72 (Operand.tmp 5) 0, type := 0, pos := "plant.go:148", after := #[], guard := none }) (v := ?_) rfl (by kernel_rfl) (by kernel_rfl) (by kernel_rfl) (fun _ _ _ h => h) (Or.inl ⟨by rfl, ?hyt1_13⟩) (by assumption) ?restt1_13
        case hyt1_13 => (intro w hSw; (try dsimp only at hSw); go_simp; try with_reducible rfl)
        try simp only [Act.put, List.setIfInBounds_toArray, List.set_cons_zero, List.set_cons_succ]
        refine wpAnyH_take (i := 5) (oi := { dst := some 33, op := Op.load 3 (Operand.tmp 32), type := 3, pos := "plant.go:148", after := #[{ on := 4, ground := Ground.data }], guard := none }) (v := ?_) rfl (by kernel_rfl) (by kernel_rfl) (by kernel_rfl) (fun _ _ _ h => h) (Or.inl ⟨by rfl, ?hyt1_16⟩) (by assumption) ?restt1_16
        case hyt1_16 => (intro w hSw; obtain ⟨s1, s2, s3, s4, s5⟩ := hSw; go_simp; try with_reducible rfl)
        try simp only [Act.put, List.setIfInBounds_toArray, List.set_cons_zero, List.set_cons_succ]
        refine wpAnyH_take (i := 6) (oi := { dst := some 34, op := Op.indexAddr 61 (Operand.tmp 31) (Operand.tmp 33), type := 0, pos := "plant.go:148", after := #[{ on := 3, ground := Ground.data }, { on := 5, ground := Ground.data }], guard := none }) (v := ?_) rfl (by kernel_rfl) (by kernel_rfl) (by kernel_rfl) (fun _ _ _ h => h) (Or.inl ⟨by rfl, ?hyt1_19⟩) (by assumption) ?restt1_19
        case hyt1_19 => (intro w hSw; (try dsimp only at hSw); go_simp; try with_reducible rfl)
        try simp only [Act.put, List.setIfInBounds_toArray, List.set_cons_zero, List.set_cons_succ]
        refine wpAnyH_take (i := 7) (oi := { dst := some 35, op := Op.fieldAddr 67 (Operand.tmp 34) 1, type := 0, pos := "plant.go:148", after := #[{ on := 6, ground := Ground.data }], guard := none }) (v := ?_) rfl (by kernel_rfl) (by kernel_rfl) (by kernel_rfl) (fun _ _ _ h => h) (Or.inl ⟨by rfl, ?hyt1_22⟩) (by assumption) ?restt1_22
        case hyt1_22 => (intro w hSw; (try dsimp only at hSw); go_simp; try with_reducible rfl)
        try simp only [Act.put, List.setIfInBounds_toArray, List.set_cons_zero, List.set_cons_succ]
        refine wpAnyH_take (i := 8) (oi := { dst := some 36, op := Op.load 65 (Operand.tmp 35), type := 65, pos := "plant.go:148", after := #[{ on := 7, ground := Ground.data }], guard := none }) (v := ?_) rfl (by kernel_rfl) (by kernel_rfl) (by kernel_rfl) (fun _ _ _ h => h) (Or.inl ⟨by rfl, ?hyt1_25⟩) (by assumption) ?restt1_25
        case hyt1_25 => (intro w hSw; obtain ⟨s1, s2, s3, s4, s5⟩ := hSw; go_simp; try with_reducible rfl)
        try simp only [Act.put, List.setIfInBounds_toArray, List.set_cons_zero, List.set_cons_succ]
        refine wpAnyH_take (i := 9) (oi := { dst := some 37, op := Op.fieldAddr 72 (Operand.tmp 5) 1, type := 0, pos := "plant.go:148", after := #[], guard := none }) (v := ?_) rfl (by kernel_rfl) (by kernel_rfl) (by kernel_rfl) (fun _ _ _ h => h) (Or.inl ⟨by rfl, ?hyt1_28⟩) (by assumption) ?restt1_28
        case hyt1_28 => (intro w hSw; (try dsimp only at hSw); go_simp; try with_reducible rfl)
        try simp only [Act.put, List.setIfInBounds_toArray, List.set_cons_zero, List.set_cons_succ]
        refine wpAnyH_take (i := 10) (oi := { dst := some 38, op := Op.load 3 (Operand.tmp 37), type := 3, pos := "plant.go:148", after := #[{ on := 9, ground := Ground.data }], guard := none }) (v := ?_) rfl (by kernel_rfl) (by kernel_rfl) (by kernel_rfl) (fun _ _ _ h => h) (Or.inl ⟨by rfl, ?hyt1_31⟩) (by assumption) ?restt1_31
        case hyt1_31 => (intro w hSw; obtain ⟨s1, s2, s3, s4, s5⟩ := hSw; go_simp; try with_reducible rfl)
        try simp only [Act.put, List.setIfInBounds_toArray, List.set_cons_zero, List.set_cons_succ]
        refine wpAnyH_take (i := 11) (oi := { dst := some 39, op := Op.lookup 65 (Operand.tmp 36) (Operand.tmp 38) false, type := 70, pos := "plant.go:148", after := #[{ on := 8, ground := Ground.data }, { on := 10, ground := Ground.data }], guard := none }) (v := ?_) rfl (by kernel_rfl) (by kernel_rfl) (by kernel_rfl) (fun _ _ _ h => h) (Or.inl ⟨by rfl, ?hyt1_34⟩) (by assumption) ?restt1_34
        case hyt1_34 => (intro w hSw; refine exec_lookup 65 (.tmp 36) (.tmp 38) false ?_ (.map (some m)) (.int .i64 x.place) (.agg (secA bs)) ?_ ?_ hSw.2.2.2.2 <;> rfl)
        try simp only [Act.put, List.setIfInBounds_toArray, List.set_cons_zero, List.set_cons_succ]
        refine wpAnyH_ready (rs := [12]) (by kernel_rfl) (by simp) (AllReadyH.cons (o := { dst := some 7, op := Op.alloc 70, type := 0, pos := "plant.go:148", after := #[], guard := none }) rfl (fun K hK => ?_) AllReadyH.nil)
        refine step_run rfl _ (exec_alloc 70 rfl (secA zeroS) (zero70 _)) ?_
        refine hK.out _ _ (hSA _) (fun hHeld => ?_)
        clear hK K
        try simp only [Act.put, List.setIfInBounds_toArray, List.set_cons_zero, List.set_cons_succ]
        refine wpAnyH_ready (rs := [13]) (by kernel_rfl) (by simp) (AllReadyH.cons (o := { dst := none, op := Op.store 70 (Operand.tmp 7) (Operand.tmp 39), type := 0, pos := "plant.go:148", after := #[{ on := 12, ground := Ground.data }, { on := 11, ground := Ground.data }, { on := 0, ground := Ground.phase }, { on := 1, ground := Ground.phase }, { on := 2, ground := Ground.phase }, { on := 3, ground := Ground.phase }, { on := 4, ground := Ground.phase }, { on := 5, ground := Ground.phase }, { on := 6, ground := Ground.phase }, { on := 7, ground := Ground.phase }, { on := 8, ground := Ground.phase }, { on := 9, ground := Ground.phase }, { on := 10, ground := Ground.phase }, { on := 11, ground := Ground.phase }, { on := 12, ground := Ground.phase }], guard := none }) rfl (fun K hK => ?_) AllReadyH.nil)
        refine step_nov rfl (exec_store 70 (.tmp 7) (.tmp 39) rfl ⟨(World.drew (wr.alloc (.cells (wtA x) 72))).heap.size, 0, none⟩ rfl (.agg (secA bs)) rfl (run_storeVar_new _ _ _ _ (by rw [secA_size, hbs.out]; exact info70) (by rw [secA_size, secA_size, hbs.out]; rfl) (secA_one _))) ?_
        refine hK.out _ _ (hSA _) (fun hHeld => ?_)
        clear hK K
        refine wpAnyH_done (by kernel_rfl) ?_ _
        go_wp2_with (first | (with_reducible refine wpList_load_at rfl 72 (.tmp 16) rfl _ rfl _ hld ?_))
        obtain ⟨e0, e1, e2, e3, e4, e5⟩ := T.out _ _ hmix.out hBT0.out
        refine wp_region_tail 12 (by kernel_rfl) (by kernel_rfl) ?_
        simp only [List.take_succ_cons, List.take_zero, List.drop_succ_cons, List.drop_zero]
        iterate 11 still_step
        refine still_run rfl _ (exec_load 70 (.tmp 7) rfl ⟨wr.heap.size + 1, 0, none⟩ rfl _ e4) ?_
        refine wpStill_nil ?_
        obtain ⟨w3, hr, hM3, htn⟩ := e5.store keyed_int Try.underlying65 (by simp only [maxLen]; omega) (by trivial) (key_int x.place (by omega)) (mix (keepAt [] j) bs x.b)
        refine wpList_nov rfl (exec_mapUpdate 65 (.tmp 66) (.tmp 68) (.tmp 69) rfl _ _ _ rfl rfl rfl hr) ?_
        have HREL := RND.out _ w3 _ hBT0.out hM3 (by split <;> omega) htn.grown
        clear hM3 htn e0 e1 e2 e3 e4 e5 hr
        go_wp2_with fail
        go_roundw
        case rel => exact ⟨j + 1, by omega, by go_num, HREL.1, HREL.2⟩
        case measure => simp [intOf]; omega
      · obtain rfl : j = l.length := by omega
        have gne : g ∉ ms := fun hm => (List.nodup_cons.1 hnd).1 (by simp [hm])
        have bw := HB.out.kept (w' := wr) (ht.block g HB.out.lt gne)
        obtain ⟨⟨k0, k1, k2, k3, k4⟩, ⟨z0, z1, z2, z3, z4⟩⟩ := bw.cells
        have HBW := Lib.hid bw
        clear bw
        go_wp2_with fail
        go_end0
        have hmm := HMJ.out
        rw [List.take_length] at hmm
        refine ⟨rfl, (((ht.mono (fun k hk => List.mem_cons_of_mem _ hk)).set (.inl (by simp)) _ _).set (.inl (by simp)) _ _).set (.inl (by simp)) _ _, ((HBW.out.waits _).off false).fuse (-1), fun i hi hi' => ?_⟩
        obtain ⟨s', f', d1, d2, d3⟩ := hmm i hi hi'
        have hne : ms[i] ≠ g := fun e => gne (by rw [← e]; simp)
        exact ⟨s', f', d1.block ((Below.heap_setCell _ _ _ _ (by simpa using hne)).trans ((Below.heap_setCell _ _ _ _ (by simpa using hne)).trans (Below.heap_setCell _ _ _ _ (by simpa using hne)))), by omega, d3⟩

  · have hkpos : 0 < keep.length := List.length_pos_iff.2 hke
    obtain ⟨_, ⟨h0, _⟩ | ⟨kb, ko, kc, hkv, hkb, hkc⟩⟩ := hk
    · exact absurd h0 hke
    obtain ⟨rfl, rfl⟩ : pk = some ⟨kb, ko, none⟩ ∧ ck = kc := by simpa using hkv
    have hkk : (0 : Int) < (keep.length : Int) := by omega
    clear hkv hke
    go_enter Try.func14, Try.ntmps14
    go_wp2_with fail
    go_loopw [13] (fun k wr => ∃ j : Nat, j ≤ l.length ∧ k = .int .i64 j ∧ Turn ms w wr ∧ MapsAt wr most ms (bootAll keep 0 (l.take j) has) (steps - l.length + j)) (fun k _ => l.length - (intOf k).toNat)
    case atStart => exact ⟨0, by omega, rfl, Turn.refl _ _, by simpa [bootAll] using hM⟩
    case round =>
      obtain ⟨j, hj, rfl, ht, hMj⟩ := hrel
      have HMJ := Lib.hid hMj
      clear hMj
      by_cases hlt : j < l.length
      · obtain ⟨wk, cap, hv, hbk, hn', hcw', hld⟩ := Buf.load (HR.out.kept (w' := wr) fun k hk => ht.block k (HR.out.lt k hk) (fun hm => by
          have h1 := (List.nodup_append.1 (List.nodup_cons.1 (List.nodup_cons.1 hnd).2).2).2.2 k (by simp [hk]) k hm
          exact h1 rfl)) (fun x hx => (hl x hx).1) j hlt
        obtain ⟨rfl, rfl⟩ : pw = some ⟨wk, 0, none⟩ ∧ cw = cap := by simpa using hv
        obtain ⟨hx64, n, hxn, hxp, hn65⟩ := hl l[j] (by simp)
        obtain ⟨hdl, hxn2⟩ := List.getElem?_eq_some_iff.1 hxn
        have hdm : l[j].dev < ms.length := by omega
        obtain ⟨s, f, hMf, hs, hf⟩ := HMJ.out l[j].dev hdl hdm
        obtain ⟨x, hx⟩ : ∃ x, x = l[j] := ⟨_, rfl⟩
        obtain ⟨m, hm⟩ : ∃ m, m = ms[l[j].dev] := ⟨_, rfl⟩
        rw [← hm] at hMf
        have hDm := hD l[j].dev hdl hdm
        rw [← hm] at hDm
        have hmem : m ∈ ms := by rw [hm]; simp
        rw [hxn2] at hf
        rw [← hx] at hld hx64 hxp hf hdl hDm
        have HXM := Lib.hid (show m = ms[l[j].dev] ∧ x = l[j] ∧ most[l[j].dev] = n from ⟨hm, hx, hxn2⟩)
        have hdl' : (x.dev : Int) < (most.length : Int) := by omega
        have hdev0 : 0 ≤ (x.dev : Int) := by omega
        obtain ⟨bs, hbs0⟩ : ∃ bs, bs = bootAll keep 0 (l.take j) has x.dev x.place := ⟨_, rfl⟩
        have hfp := hf x.place hxp
        rw [← hbs0] at hfp
        have HBS0 := Lib.hid hbs0
        have hbs : Hid (bs.length = 64) := Lib.hid (by rw [hbs0]; exact bootAll_len keep _ 0 has hsec (fun y hy => (hl y (List.mem_of_mem_take hy)).1) _ _)
        have hlkW : ∀ W : World, W.heap[m]? = wr.heap[m]? → (Instr.lookup 65 (.map (some m)) (.int .i64 x.place) false).run Try.prog W = .ok (.agg (secA bs)) W := fun W hW => by
          have := (hMf.block hW).look (t := 65) keyed_int Try.underlying65 (zero70 W) (key_int x.place (by omega))
          rw [hfp] at this
          exact this
        have hml := hMf.lt
        have hgl : g < wr.heap.size := by have := HB.out.lt; have := ht.size; omega
        have hdkl : dk < w.heap.size := (Array.getElem?_eq_some_iff.1 h4).1
        have hdkr : dk < wr.heap.size := by have := ht.size; omega
        have hnd' := hnd
        simp only [List.nodup_cons, List.mem_cons, List.mem_append, not_or] at hnd'
        have gc : wr.cell? ⟨g, 0, none⟩ = some (.slice (some ⟨dk, 0, none⟩) most.length cd) := (World.cell?_of_block (a := ⟨g, 0, none⟩) (ht.block g HB.out.lt hnd'.1.2.2)).trans HB.out.cells.1.1
        have dc : wr.cell? ⟨dk, x.dev * 2 + 1, none⟩ = some (.map (some m)) := (World.cell?_of_block (a := ⟨dk, x.dev * 2 + 1, none⟩) (ht.block dk hdkl hnd'.2.1.2)).trans ((cells_at h4 _).trans hDm)
        have hz := zero72 wr
        have sz1 := wtA_size x hx64
        have hst1 := store72_new (w := wr) (wtA x) sz1 (wtA_one _)
        obtain ⟨q0, q1, q2⟩ := wt_cells (w := wr.alloc (.cells (wtA x) 72)) (g := wr.heap.size) (heap_alloc_last _ _) hx64
        have up : ∀ {W : World} {a : Addr} {v : Value} (o : Obj), W.cell? a = some v → (W.alloc o).cell? a = some v := fun {W a v} o h => (World.cell?_of_block (Below.heap_alloc W o _ (World.block_lt_of_cell? W _ h))).trans h
        have hS0 : BootS g dk most.length cd wr.heap.size m x bs (World.drew (wr.alloc (.cells (wtA x) 72))) := ⟨up (W := wr) _ gc, q0, q1, up (W := wr) _ dc, hlkW _ (Below.heap_alloc wr _ _ hml)⟩
        have hSA : ∀ o, BootS g dk most.length cd wr.heap.size m x bs ((World.drew (wr.alloc (.cells (wtA x) 72))).alloc o) := fun o => ⟨up o hS0.1, up o hS0.2.1, up o hS0.2.2.1, up o hS0.2.2.2.1, hlkW _ ((Below.heap_alloc _ o _ (by simp; omega)).trans (Below.heap_alloc wr _ _ hml))⟩
        have hi0 : 0 ≤ (j : Int) := by omega
        have T : Hid (∀ (W : World) (b' : Sec), b'.length = 64 → BT wr W x b' → W.drew.cell? ⟨g, 0, none⟩ = some (.slice (some ⟨dk, 0, none⟩) most.length cd) ∧ W.drew.cell? ⟨wr.heap.size, 0, none⟩ = some (.int .i64 x.dev) ∧ W.drew.cell? ⟨wr.heap.size, 1, none⟩ = some (.int .i64 x.place) ∧ W.drew.cell? ⟨dk, x.dev * 2 + 1, none⟩ = some (.map (some m)) ∧
            (loadVar 70 ⟨wr.heap.size + 1, 0, none⟩).run Try.prog W.drew = .ok (.agg (secA b')) W.drew ∧ MapFn secE Try.prog 3 W.drew m s f) := Lib.hid fun W b' hb' ⟨t1, t2, t3⟩ => by
          obtain ⟨p0, p1, _⟩ := wt_cells (w := W.drew) (g := wr.heap.size) t2 hx64
          refine ⟨(World.cell?_of_block (w := wr) (a := ⟨g, 0, none⟩) (t1.block g hgl (by simp))).trans gc, p0, p1, (World.cell?_of_block (w := wr) (a := ⟨dk, x.dev * 2 + 1, none⟩) (t1.block dk hdkr (by simp))).trans dc, ?_, hMf.block (t1.block m hml (by simp))⟩
          refine run_loadVar_from (n := 64) Try.underlying70 rfl info70 (by rw [secA_size, hb']) fun i v hv => ?_
          rw [cells_at (w := W.drew) t3]
          simpa using hv
        have RND : Hid (∀ (W w3 : World) (s3 : Nat), BT wr W x (mix (keepAt keep j) bs x.b) → MapFn secE Try.prog 3 w3 m s3 (upd f (.int .i64 x.place) (some (mix (keepAt keep j) bs x.b))) → s3 ≤ s + 1 → W.drew.grownBy w3 (some m) → Turn ms w w3 ∧ MapsAt w3 most ms (bootAll keep 0 (l.take (j + 1)) has) (steps - l.length + (j + 1 : Nat))) := Lib.hid fun W w3 s3 ⟨t1, _, _⟩ r2 r3 r4 => by
          obtain ⟨xm, xl, xn⟩ := HXM.out
          refine ⟨(ht.trans ((t1.mono (by simp)).drew)).grown r4 fun k hk => .inl (by simp at hk; subst hk; exact hmem), fun i hi hi' => ?_⟩
          rw [List.take_succ_eq_append_getElem hlt, bootAll_snoc]
          have e0 : 0 + (l.take j).length = j := by rw [List.length_take]; omega
          rw [e0, ← xl]
          by_cases e : i = x.dev
          · subst e
            have em : ms[x.dev] = m := by rw [xm]; congr 1; rw [xl]
            have en : most[x.dev] = n := by rw [← xn]; congr 1; rw [xl]
            refine ⟨s3, _, by rw [em]; exact r2, by push_cast; omega, fun k hk => ?_⟩
            rw [en] at hk
            by_cases ek : k = x.place
            · subst ek
              rw [upd_same]
              dsimp only
              rw [if_pos ⟨rfl, rfl⟩, HBS0.out]
              rfl
            · rw [upd_other (lit_ne ek)]
              dsimp only
              rw [if_neg (fun h => ek h.2)]
              exact hf k hk
          · obtain ⟨s', f', c1, c2, c3⟩ := HMJ.out i hi hi'
            have hne : ms[i] ≠ m := by
              rw [xm]
              intro h
              have := (List.getElem_inj (List.nodup_append.1 (List.nodup_cons.1 (List.nodup_cons.1 hnd).2).2).2.1).1 h
              rw [xl] at e
              exact e this
            refine ⟨s', f', c1.block ((r4.block ms[i] (by have := c1.lt; have := t1.size; show _ < W.heap.size; omega) (by simpa using hne)).trans (t1.block _ c1.lt (by simp))), by push_cast; omega, fun k hk => ?_⟩
            dsimp only
            rw [if_neg (fun h => e h.1)]
            exact c3 k hk
        clear hbk hn' hcw' hv hx hm hbs0 hxn hxn2 hfp up gc dc q0 q1 q2
        have hjk : j % keep.length < keep.length := Nat.mod_lt _ hkpos
        obtain ⟨ix, hix⟩ : ∃ ix, ix = j % keep.length := ⟨_, rfl⟩
        rw [← hix] at hjk
        have hmod : (j : Int) % (keep.length : Int) = (ix : Int) := by rw [hix]; omega
        obtain ⟨kv, hkv⟩ : ∃ kv, kv = keep[ix] := ⟨_, rfl⟩
        have hck := hkc ix hjk
        rw [← hkv] at hck
        have hkm : kb ∉ ms := fun hm => by
          obtain ⟨i, hi, rfl⟩ := List.getElem_of_mem hm
          obtain ⟨_, _, hMi, _⟩ := hM i (by omega) hi
          exact ints_ne hck hMi rfl
        have hck2 : (wr.alloc (.cells (wtA x) 72)).cell? ⟨kb, ko + ix, none⟩ = some (.int .i64 kv) := (World.cell?_of_block (a := ⟨kb, ko + ix, none⟩) (Below.heap_alloc wr _ _ (by have := ht.size; show kb < wr.heap.size; omega))).trans ((World.cell?_of_block (a := ⟨kb, ko + ix, none⟩) (ht.block kb hkb hkm)).trans hck)
        have hka : Hid (keepAt keep j = kv % 4) := Lib.hid (by rw [keepAt, if_neg (by omega), ← hix, hkv]; simp [hjk])
        have hba := i64_and3 kv
        have hixl : (ix : Int) < (keep.length : Int) := by omega
        have HIX := Lib.hid hix
        have hBT := BT.start wr x bs
        have q6 := hBT.2.1
        have p6 := hBT.2.2
        have hBTH := Lib.hid hBT
        have Q6 := Lib.hid q6
        have P6 := Lib.hid p6
        clear hkv hck hkm hix hBT q6 p6
        by_cases hc : kv % 4 = 1
        · have b1 : (kv % 4 == 1) = true := by rw [hc]; rfl
          have hm0 : mix (keepAt keep j) bs x.b = x.b := by rw [hka.out, mix, if_pos hc]
          have hmix : Hid ((mix (keepAt keep j) bs x.b).length = 64) := Lib.hid (mix_len _ _ _ hbs.out hx64)
          have hBT1 : Hid (BT wr ((((wr.alloc (.cells (wtA x) 72)).alloc (.cells (secA bs) 70)).drew).setRow (wr.heap.size + 1) (secA x.b)) x (mix (keepAt keep j) bs x.b)) := Lib.hid (by rw [hm0]; exact hBTH.out.drew.put)
          have hl44 := (wt_cells (w := ((wr.alloc (.cells (wtA x) 72)).alloc (.cells (secA bs) 70)).drew) (g := wr.heap.size) Q6.out hx64).2.2
          have hst44 : (storeVar 70 ⟨wr.heap.size + 1, 0, none⟩ (.agg (secA x.b))).run Try.prog (((wr.alloc (.cells (wtA x) 72)).alloc (.cells (secA bs) 70)).drew) = .ok () ((((wr.alloc (.cells (wtA x) 72)).alloc (.cells (secA bs) 70)).drew).setRow (wr.heap.size + 1) (secA x.b)) := run_storeVar_row _ _ _ _ (secA bs) _ P6.out (by rw [secA_size, hx64]; exact info70) (by rw [secA_size, secA_size, hbs.out, hx64]) (secA_one _)
          have HX64 := Lib.hid hx64
          clear hm0 hx64 hc
          go_wp2_with (first | (with_reducible refine wpList_load_at rfl 72 (.tmp 16) rfl _ rfl _ hld ?_))
          refine wp_region_held_drew (S := (BootS g dk most.length cd wr.heap.size m x bs)) (by kernel_rfl) (hS0) (fun hHeld => ?_)
          refine wpAnyH_take (i := 0) (oi := { dst := some 28, op := Op.move (Operand.tmp 0), type := 24, pos := "plant.go:148", after := #[], guard := none }) (v := ?_) rfl (by kernel_rfl) (by kernel_rfl) (by kernel_rfl) (fun _ _ _ h => h) (Or.inl ⟨by rfl, ?hyt2_1⟩) (by assumption) ?restt2_1
          case hyt2_1 => (intro w hSw; (try dsimp only at hSw); go_simp; try with_reducible rfl)
          try simp only [Act.put, List.setIfInBounds_toArray, List.set_cons_zero, List.set_cons_succ]
          refine wpAnyH_take (i := 1) (oi := { dst := some 29, op := Op.nilCheck (Operand.tmp 28), type := 0, pos := "plant.go:148", after := #[{ on := 0, ground := Ground.data }], guard := none }) (v := ?_) rfl (by kernel_rfl) (by kernel_rfl) (by kernel_rfl) (fun _ _ _ h => h) (Or.inl ⟨by rfl, ?hyt2_4⟩) (by assumption) ?restt2_4
          case hyt2_4 => (intro w hSw; (try dsimp only at hSw); go_simp; try with_reducible rfl)
          try simp only [Act.put, List.setIfInBounds_toArray, List.set_cons_zero, List.set_cons_succ]
          refine wpAnyH_take (i := 2) (oi := { dst := some 30, op := Op.fieldAddr 64 (Operand.tmp 29) 0, type := 0, pos := "plant.go:148", after := #[{ on := 1, ground := Ground.data }], guard := none }) (v := ?_) rfl (by kernel_rfl) (by kernel_rfl) (by kernel_rfl) (fun _ _ _ h => h) (Or.inl ⟨by rfl, ?hyt2_7⟩) (by assumption) ?restt2_7
          case hyt2_7 => (intro w hSw; (try dsimp only at hSw); go_simp; try with_reducible rfl)
          try simp only [Act.put, List.setIfInBounds_toArray, List.set_cons_zero, List.set_cons_succ]
          refine wpAnyH_take (i := 3) (oi := { dst := some 31, op := Op.load 61 (Operand.tmp 30), type := 61, pos := "plant.go:148", after := #[{ on := 2, ground := Ground.data }], guard := none }) (v := ?_) rfl (by kernel_rfl) (by kernel_rfl) (by kernel_rfl) (fun _ _ _ h => h) (Or.inl ⟨by rfl, ?hyt2_10⟩) (by assumption) ?restt2_10
          case hyt2_10 => (intro w hSw; obtain ⟨s1, s2, s3, s4, s5⟩ := hSw; go_simp; try with_reducible rfl)
          try simp only [Act.put, List.setIfInBounds_toArray, List.set_cons_zero, List.set_cons_succ]
          refine wpAnyH_take (i := 4) (oi := { dst := some 32, op := Op.fieldAddr 72 (Operand.tmp 5) 0, type := 0, pos := "plant.go:148", after := #[], guard := none }) (v := ?_) rfl (by kernel_rfl) (by kernel_rfl) (by kernel_rfl) (fun _ _ _ h => h) (Or.inl ⟨by rfl, ?hyt2_13⟩) (by assumption) ?restt2_13
          case hyt2_13 => (intro w hSw; (try dsimp only at hSw); go_simp; try with_reducible rfl)
          try simp only [Act.put, List.setIfInBounds_toArray, List.set_cons_zero, List.set_cons_succ]
          refine wpAnyH_take (i := 5) (oi := { dst := some 33, op := Op.load 3 (Operand.tmp 32), type := 3, pos := "plant.go:148", after := #[{ on := 4, ground := Ground.data }], guard := none }) (v := ?_) rfl (by kernel_rfl) (by kernel_rfl) (by kernel_rfl) (fun _ _ _ h => h) (Or.inl ⟨by rfl, ?hyt2_16⟩) (by assumption) ?restt2_16
          case hyt2_16 => (intro w hSw; obtain ⟨s1, s2, s3, s4, s5⟩ := hSw; go_simp; try with_reducible rfl)
          try simp only [Act.put, List.setIfInBounds_toArray, List.set_cons_zero, List.set_cons_succ]
          refine wpAnyH_take (i := 6) (oi := { dst := some 34, op := Op.indexAddr 61 (Operand.tmp 31) (Operand.tmp 33), type := 0, pos := "plant.go:148", after := #[{ on := 3, ground := Ground.data }, { on := 5, ground := Ground.data }], guard := none }) (v := ?_) rfl (by kernel_rfl) (by kernel_rfl) (by kernel_rfl) (fun _ _ _ h => h) (Or.inl ⟨by rfl, ?hyt2_19⟩) (by assumption) ?restt2_19
          case hyt2_19 => (intro w hSw; (try dsimp only at hSw); go_simp; try with_reducible rfl)
          try simp only [Act.put, List.setIfInBounds_toArray, List.set_cons_zero, List.set_cons_succ]
          refine wpAnyH_take (i := 7) (oi := { dst := some 35, op := Op.fieldAddr 67 (Operand.tmp 34) 1, type := 0, pos := "plant.go:148", after := #[{ on := 6, ground := Ground.data }], guard := none }) (v := ?_) rfl (by kernel_rfl) (by kernel_rfl) (by kernel_rfl) (fun _ _ _ h => h) (Or.inl ⟨by rfl, ?hyt2_22⟩) (by assumption) ?restt2_22
          case hyt2_22 => (intro w hSw; (try dsimp only at hSw); go_simp; try with_reducible rfl)
          try simp only [Act.put, List.setIfInBounds_toArray, List.set_cons_zero, List.set_cons_succ]
          refine wpAnyH_take (i := 8) (oi := { dst := some 36, op := Op.load 65 (Operand.tmp 35), type := 65, pos := "plant.go:148", after := #[{ on := 7, ground := Ground.data }], guard := none }) (v := ?_) rfl (by kernel_rfl) (by kernel_rfl) (by kernel_rfl) (fun _ _ _ h => h) (Or.inl ⟨by rfl, ?hyt2_25⟩) (by assumption) ?restt2_25
          case hyt2_25 => (intro w hSw; obtain ⟨s1, s2, s3, s4, s5⟩ := hSw; go_simp; try with_reducible rfl)
          try simp only [Act.put, List.setIfInBounds_toArray, List.set_cons_zero, List.set_cons_succ]
          refine wpAnyH_take (i := 9) (oi := { dst := some 37, op := Op.fieldAddr 72 (Operand.tmp 5) 1, type := 0, pos := "plant.go:148", after := #[], guard := none }) (v := ?_) rfl (by kernel_rfl) (by kernel_rfl) (by kernel_rfl) (fun _ _ _ h => h) (Or.inl ⟨by rfl, ?hyt2_28⟩) (by assumption) ?restt2_28
          case hyt2_28 => (intro w hSw; (try dsimp only at hSw); go_simp; try with_reducible rfl)
          try simp only [Act.put, List.setIfInBounds_toArray, List.set_cons_zero, List.set_cons_succ]
          refine wpAnyH_take (i := 10) (oi := { dst := some 38, op := Op.load 3 (Operand.tmp 37), type := 3, pos := "plant.go:148", after := #[{ on := 9, ground := Ground.data }], guard := none }) (v := ?_) rfl (by kernel_rfl) (by kernel_rfl) (by kernel_rfl) (fun _ _ _ h => h) (Or.inl ⟨by rfl, ?hyt2_31⟩) (by assumption) ?restt2_31
          case hyt2_31 => (intro w hSw; obtain ⟨s1, s2, s3, s4, s5⟩ := hSw; go_simp; try with_reducible rfl)
          try simp only [Act.put, List.setIfInBounds_toArray, List.set_cons_zero, List.set_cons_succ]
          refine wpAnyH_take (i := 11) (oi := { dst := some 39, op := Op.lookup 65 (Operand.tmp 36) (Operand.tmp 38) false, type := 70, pos := "plant.go:148", after := #[{ on := 8, ground := Ground.data }, { on := 10, ground := Ground.data }], guard := none }) (v := ?_) rfl (by kernel_rfl) (by kernel_rfl) (by kernel_rfl) (fun _ _ _ h => h) (Or.inl ⟨by rfl, ?hyt2_34⟩) (by assumption) ?restt2_34
          case hyt2_34 => (intro w hSw; refine exec_lookup 65 (.tmp 36) (.tmp 38) false ?_ (.map (some m)) (.int .i64 x.place) (.agg (secA bs)) ?_ ?_ hSw.2.2.2.2 <;> rfl)
          try simp only [Act.put, List.setIfInBounds_toArray, List.set_cons_zero, List.set_cons_succ]
          refine wpAnyH_ready (rs := [12]) (by kernel_rfl) (by simp) (AllReadyH.cons (o := { dst := some 7, op := Op.alloc 70, type := 0, pos := "plant.go:148", after := #[], guard := none }) rfl (fun K hK => ?_) AllReadyH.nil)
          refine step_run rfl _ (exec_alloc 70 rfl (secA zeroS) (zero70 _)) ?_
          refine hK.out _ _ (hSA _) (fun hHeld => ?_)
          clear hK K
          try simp only [Act.put, List.setIfInBounds_toArray, List.set_cons_zero, List.set_cons_succ]
          refine wpAnyH_ready (rs := [13]) (by kernel_rfl) (by simp) (AllReadyH.cons (o := { dst := none, op := Op.store 70 (Operand.tmp 7) (Operand.tmp 39), type := 0, pos := "plant.go:148", after := #[{ on := 12, ground := Ground.data }, { on := 11, ground := Ground.data }, { on := 0, ground := Ground.phase }, { on := 1, ground := Ground.phase }, { on := 2, ground := Ground.phase }, { on := 3, ground := Ground.phase }, { on := 4, ground := Ground.phase }, { on := 5, ground := Ground.phase }, { on := 6, ground := Ground.phase }, { on := 7, ground := Ground.phase }, { on := 8, ground := Ground.phase }, { on := 9, ground := Ground.phase }, { on := 10, ground := Ground.phase }, { on := 11, ground := Ground.phase }, { on := 12, ground := Ground.phase }], guard := none }) rfl (fun K hK => ?_) AllReadyH.nil)
          refine step_nov rfl (exec_store 70 (.tmp 7) (.tmp 39) rfl ⟨(World.drew (wr.alloc (.cells (wtA x) 72))).heap.size, 0, none⟩ rfl (.agg (secA bs)) rfl (run_storeVar_new _ _ _ _ (by rw [secA_size, hbs.out]; exact info70) (by rw [secA_size, secA_size, hbs.out]; rfl) (secA_one _))) ?_
          refine hK.out _ _ (hSA _) (fun hHeld => ?_)
          clear hK K
          refine wpAnyH_done (by kernel_rfl) ?_ _
          go_wp2_with (first | (with_reducible refine wpList_load_at rfl 70 (.tmp 44) rfl _ rfl _ hl44 ?_) | (with_reducible refine wpList_store_at rfl 70 (.tmp 7) (.tmp 45) rfl _ rfl _ rfl hst44 ?_))
          obtain ⟨e0, e1, e2, e3, e4, e5⟩ := T.out _ _ hmix.out hBT1.out
          refine wp_region_tail 12 (by kernel_rfl) (by kernel_rfl) ?_
          simp only [List.take_succ_cons, List.take_zero, List.drop_succ_cons, List.drop_zero]
          iterate 11 still_step
          refine still_run rfl _ (exec_load 70 (.tmp 7) rfl ⟨wr.heap.size + 1, 0, none⟩ rfl _ e4) ?_
          refine wpStill_nil ?_
          obtain ⟨w3, hr, hM3, htn⟩ := e5.store keyed_int Try.underlying65 (by simp only [maxLen]; omega) (by trivial) (key_int x.place (by omega)) (mix (keepAt keep j) bs x.b)
          refine wpList_nov rfl (exec_mapUpdate 65 (.tmp 66) (.tmp 68) (.tmp 69) rfl _ _ _ rfl rfl rfl hr) ?_
          have HREL := RND.out _ w3 _ hBT1.out hM3 (by split <;> omega) htn.grown
          clear hM3 htn e0 e1 e2 e3 e4 e5 hr
          go_wp2_with fail
          go_roundw
          case rel => exact ⟨j + 1, by omega, by go_num, HREL.1, HREL.2⟩
          case measure => simp [intOf]; omega
        · have hc1 : ¬ kv % 4 = 1 := hc
          clear hc
          by_cases hc : kv % 4 = 2
          · have b1 : (kv % 4 == 1) = false := by rw [hc]; rfl
            have b2 : (kv % 4 == 2) = true := by rw [hc]; rfl
            have hm0 : mix (keepAt keep j) bs x.b = (x.b.take 32 ++ bs.drop 32) := by rw [hka.out, mix, if_neg (by omega), if_pos hc]
            have hmix : Hid ((mix (keepAt keep j) bs x.b).length = 64) := Lib.hid (mix_len _ _ _ hbs.out hx64)
            have hBT2 : Hid (BT wr ((((wr.alloc (.cells (wtA x) 72)).alloc (.cells (secA bs) 70)).drew).drew.setRow (wr.heap.size + 1) (secA (x.b.take 32 ++ bs.drop 32))) x (mix (keepAt keep j) bs x.b)) := Lib.hid (by rw [hm0]; exact hBTH.out.drew.drew.put)
            have HX64 := Lib.hid hx64
            clear hm0 hx64 hc
            go_wp2_with (first | (with_reducible refine wpList_load_at rfl 72 (.tmp 16) rfl _ rfl _ hld ?_))
            refine wp_region_held_drew (S := (BootS g dk most.length cd wr.heap.size m x bs)) (by kernel_rfl) (hS0) (fun hHeld => ?_)
            refine wpAnyH_take (i := 0) (oi := { dst := some 28, op := Op.move (Operand.tmp 0), type := 24, pos := "plant.go:148", after := #[], guard := none }) (v := ?_) rfl (by kernel_rfl) (by kernel_rfl) (by kernel_rfl) (fun _ _ _ h => h) (Or.inl ⟨by rfl, ?hyt4_1⟩) (by assumption) ?restt4_1
            case hyt4_1 => (intro w hSw; (try dsimp only at hSw); go_simp; try with_reducible rfl)
            try simp only [Act.put, List.setIfInBounds_toArray, List.set_cons_zero, List.set_cons_succ]
            refine wpAnyH_take (i := 1) (oi := { dst := some 29, op := Op.nilCheck (Operand.tmp 28), type := 0, pos := "plant.go:148", after := #[{ on := 0, ground := Ground.data }], guard := none }) (v := ?_) rfl (by kernel_rfl) (by kernel_rfl) (by kernel_rfl) (fun _ _ _ h => h) (Or.inl ⟨by rfl, ?hyt4_4⟩) (by assumption) ?restt4_4
            case hyt4_4 => (intro w hSw; (try dsimp only at hSw); go_simp; try with_reducible rfl)
            try simp only [Act.put, List.setIfInBounds_toArray, List.set_cons_zero, List.set_cons_succ]
            refine wpAnyH_take (i := 2) (oi := { dst := some 30, op := Op.fieldAddr 64 (Operand.tmp 29) 0, type := 0, pos := "plant.go:148", after := #[{ on := 1, ground := Ground.data }], guard := none }) (v := ?_) rfl (by kernel_rfl) (by kernel_rfl) (by kernel_rfl) (fun _ _ _ h => h) (Or.inl ⟨by rfl, ?hyt4_7⟩) (by assumption) ?restt4_7
            case hyt4_7 => (intro w hSw; (try dsimp only at hSw); go_simp; try with_reducible rfl)
            try simp only [Act.put, List.setIfInBounds_toArray, List.set_cons_zero, List.set_cons_succ]
            refine wpAnyH_take (i := 3) (oi := { dst := some 31, op := Op.load 61 (Operand.tmp 30), type := 61, pos := "plant.go:148", after := #[{ on := 2, ground := Ground.data }], guard := none }) (v := ?_) rfl (by kernel_rfl) (by kernel_rfl) (by kernel_rfl) (fun _ _ _ h => h) (Or.inl ⟨by rfl, ?hyt4_10⟩) (by assumption) ?restt4_10
            case hyt4_10 => (intro w hSw; obtain ⟨s1, s2, s3, s4, s5⟩ := hSw; go_simp; try with_reducible rfl)
            try simp only [Act.put, List.setIfInBounds_toArray, List.set_cons_zero, List.set_cons_succ]
            refine wpAnyH_take (i := 4) (oi := { dst := some 32, op := Op.fieldAddr 72 (Operand.tmp 5) 0, type := 0, pos := "plant.go:148", after := #[], guard := none }) (v := ?_) rfl (by kernel_rfl) (by kernel_rfl) (by kernel_rfl) (fun _ _ _ h => h) (Or.inl ⟨by rfl, ?hyt4_13⟩) (by assumption) ?restt4_13
            case hyt4_13 => (intro w hSw; (try dsimp only at hSw); go_simp; try with_reducible rfl)
            try simp only [Act.put, List.setIfInBounds_toArray, List.set_cons_zero, List.set_cons_succ]
            refine wpAnyH_take (i := 5) (oi := { dst := some 33, op := Op.load 3 (Operand.tmp 32), type := 3, pos := "plant.go:148", after := #[{ on := 4, ground := Ground.data }], guard := none }) (v := ?_) rfl (by kernel_rfl) (by kernel_rfl) (by kernel_rfl) (fun _ _ _ h => h) (Or.inl ⟨by rfl, ?hyt4_16⟩) (by assumption) ?restt4_16
            case hyt4_16 => (intro w hSw; obtain ⟨s1, s2, s3, s4, s5⟩ := hSw; go_simp; try with_reducible rfl)
            try simp only [Act.put, List.setIfInBounds_toArray, List.set_cons_zero, List.set_cons_succ]
            refine wpAnyH_take (i := 6) (oi := { dst := some 34, op := Op.indexAddr 61 (Operand.tmp 31) (Operand.tmp 33), type := 0, pos := "plant.go:148", after := #[{ on := 3, ground := Ground.data }, { on := 5, ground := Ground.data }], guard := none }) (v := ?_) rfl (by kernel_rfl) (by kernel_rfl) (by kernel_rfl) (fun _ _ _ h => h) (Or.inl ⟨by rfl, ?hyt4_19⟩) (by assumption) ?restt4_19
            case hyt4_19 => (intro w hSw; (try dsimp only at hSw); go_simp; try with_reducible rfl)
            try simp only [Act.put, List.setIfInBounds_toArray, List.set_cons_zero, List.set_cons_succ]
            refine wpAnyH_take (i := 7) (oi := { dst := some 35, op := Op.fieldAddr 67 (Operand.tmp 34) 1, type := 0, pos := "plant.go:148", after := #[{ on := 6, ground := Ground.data }], guard := none }) (v := ?_) rfl (by kernel_rfl) (by kernel_rfl) (by kernel_rfl) (fun _ _ _ h => h) (Or.inl ⟨by rfl, ?hyt4_22⟩) (by assumption) ?restt4_22
            case hyt4_22 => (intro w hSw; (try dsimp only at hSw); go_simp; try with_reducible rfl)
            try simp only [Act.put, List.setIfInBounds_toArray, List.set_cons_zero, List.set_cons_succ]
            refine wpAnyH_take (i := 8) (oi := { dst := some 36, op := Op.load 65 (Operand.tmp 35), type := 65, pos := "plant.go:148", after := #[{ on := 7, ground := Ground.data }], guard := none }) (v := ?_) rfl (by kernel_rfl) (by kernel_rfl) (by kernel_rfl) (fun _ _ _ h => h) (Or.inl ⟨by rfl, ?hyt4_25⟩) (by assumption) ?restt4_25
            case hyt4_25 => (intro w hSw; obtain ⟨s1, s2, s3, s4, s5⟩ := hSw; go_simp; try with_reducible rfl)
            try simp only [Act.put, List.setIfInBounds_toArray, List.set_cons_zero, List.set_cons_succ]
            refine wpAnyH_take (i := 9) (oi := { dst := some 37, op := Op.fieldAddr 72 (Operand.tmp 5) 1, type := 0, pos := "plant.go:148", after := #[], guard := none }) (v := ?_) rfl (by kernel_rfl) (by kernel_rfl) (by kernel_rfl) (fun _ _ _ h => h) (Or.inl ⟨by rfl, ?hyt4_28⟩) (by assumption) ?restt4_28
            case hyt4_28 => (intro w hSw; (try dsimp only at hSw); go_simp; try with_reducible rfl)
            try simp only [Act.put, List.setIfInBounds_toArray, List.set_cons_zero, List.set_cons_succ]
            refine wpAnyH_take (i := 10) (oi := { dst := some 38, op := Op.load 3 (Operand.tmp 37), type := 3, pos := "plant.go:148", after := #[{ on := 9, ground := Ground.data }], guard := none }) (v := ?_) rfl (by kernel_rfl) (by kernel_rfl) (by kernel_rfl) (fun _ _ _ h => h) (Or.inl ⟨by rfl, ?hyt4_31⟩) (by assumption) ?restt4_31
            case hyt4_31 => (intro w hSw; obtain ⟨s1, s2, s3, s4, s5⟩ := hSw; go_simp; try with_reducible rfl)
            try simp only [Act.put, List.setIfInBounds_toArray, List.set_cons_zero, List.set_cons_succ]
            refine wpAnyH_take (i := 11) (oi := { dst := some 39, op := Op.lookup 65 (Operand.tmp 36) (Operand.tmp 38) false, type := 70, pos := "plant.go:148", after := #[{ on := 8, ground := Ground.data }, { on := 10, ground := Ground.data }], guard := none }) (v := ?_) rfl (by kernel_rfl) (by kernel_rfl) (by kernel_rfl) (fun _ _ _ h => h) (Or.inl ⟨by rfl, ?hyt4_34⟩) (by assumption) ?restt4_34
            case hyt4_34 => (intro w hSw; refine exec_lookup 65 (.tmp 36) (.tmp 38) false ?_ (.map (some m)) (.int .i64 x.place) (.agg (secA bs)) ?_ ?_ hSw.2.2.2.2 <;> rfl)
            try simp only [Act.put, List.setIfInBounds_toArray, List.set_cons_zero, List.set_cons_succ]
            refine wpAnyH_ready (rs := [12]) (by kernel_rfl) (by simp) (AllReadyH.cons (o := { dst := some 7, op := Op.alloc 70, type := 0, pos := "plant.go:148", after := #[], guard := none }) rfl (fun K hK => ?_) AllReadyH.nil)
            refine step_run rfl _ (exec_alloc 70 rfl (secA zeroS) (zero70 _)) ?_
            refine hK.out _ _ (hSA _) (fun hHeld => ?_)
            clear hK K
            try simp only [Act.put, List.setIfInBounds_toArray, List.set_cons_zero, List.set_cons_succ]
            refine wpAnyH_ready (rs := [13]) (by kernel_rfl) (by simp) (AllReadyH.cons (o := { dst := none, op := Op.store 70 (Operand.tmp 7) (Operand.tmp 39), type := 0, pos := "plant.go:148", after := #[{ on := 12, ground := Ground.data }, { on := 11, ground := Ground.data }, { on := 0, ground := Ground.phase }, { on := 1, ground := Ground.phase }, { on := 2, ground := Ground.phase }, { on := 3, ground := Ground.phase }, { on := 4, ground := Ground.phase }, { on := 5, ground := Ground.phase }, { on := 6, ground := Ground.phase }, { on := 7, ground := Ground.phase }, { on := 8, ground := Ground.phase }, { on := 9, ground := Ground.phase }, { on := 10, ground := Ground.phase }, { on := 11, ground := Ground.phase }, { on := 12, ground := Ground.phase }], guard := none }) rfl (fun K hK => ?_) AllReadyH.nil)
            refine step_nov rfl (exec_store 70 (.tmp 7) (.tmp 39) rfl ⟨(World.drew (wr.alloc (.cells (wtA x) 72))).heap.size, 0, none⟩ rfl (.agg (secA bs)) rfl (run_storeVar_new _ _ _ _ (by rw [secA_size, hbs.out]; exact info70) (by rw [secA_size, secA_size, hbs.out]; rfl) (secA_one _))) ?_
            refine hK.out _ _ (hSA _) (fun hHeld => ?_)
            clear hK K
            refine wpAnyH_done (by kernel_rfl) ?_ _
            go_wp2_with fail
            refine wp_region_any (by kernel_rfl) ?_
            change wpAny _ _ _ _ _ _ _ (World.drew _)
            refine wpAny_take (i := 0) (oi := { dst := some 48, op := Op.slice 70 (Operand.tmp 7) none (some (Operand.const (Value.int IntKind.i64 32))) none, type := 22, pos := "plant.go:153", after := #[], guard := none }) (v := ?_) rfl (by kernel_rfl) (by kernel_rfl) (by kernel_rfl) (fun _ _ _ h => h) (Or.inl ⟨by rfl, ?hyt3_2⟩) ?restt3_2
            case hyt3_2 => (intro w; go_simp; try with_reducible rfl)
            try simp only [Act.put, List.setIfInBounds_toArray, List.set_cons_zero, List.set_cons_succ]
            refine wpAny_take (i := 1) (oi := { dst := some 49, op := Op.fieldAddr 72 (Operand.tmp 5) 2, type := 0, pos := "plant.go:153", after := #[], guard := none }) (v := ?_) rfl (by kernel_rfl) (by kernel_rfl) (by kernel_rfl) (fun _ _ _ h => h) (Or.inl ⟨by rfl, ?hyt3_5⟩) ?restt3_5
            case hyt3_5 => (intro w; go_simp; try with_reducible rfl)
            try simp only [Act.put, List.setIfInBounds_toArray, List.set_cons_zero, List.set_cons_succ]
            refine wpAny_take (i := 2) (oi := { dst := some 50, op := Op.slice 70 (Operand.tmp 49) none (some (Operand.const (Value.int IntKind.i64 32))) none, type := 22, pos := "plant.go:153", after := #[{ on := 1, ground := Ground.data }], guard := none }) (v := ?_) rfl (by kernel_rfl) (by kernel_rfl) (by kernel_rfl) (fun _ _ _ h => h) (Or.inl ⟨by rfl, ?hyt3_8⟩) ?restt3_8
            case hyt3_8 => (intro w; go_simp; try with_reducible rfl)
            try simp only [Act.put, List.setIfInBounds_toArray, List.set_cons_zero, List.set_cons_succ]
            refine wpAny_ready (rs := [3]) (by kernel_rfl) (by simp) (AllReady.cons (o := { dst := some 51, op := Op.call { callee := Callee.builtin Builtin.copy, args := #[Operand.tmp 48, Operand.tmp 50], argTypes := #[22, 22] }, type := 3, pos := "plant.go:153", after := #[{ on := 0, ground := Ground.data }, { on := 2, ground := Ground.data }], guard := none }) rfl (fun K hK => ?_) AllReady.nil)
            refine step_run rfl _ (exec_copy (.tmp 48) (.tmp 50) 22 5 rfl Try.underlying22 (by kernel_rfl) (g := wr.heap.size + 1) (o' := 0) (n := 32) (c := 64) (b := wr.heap.size) (o2 := 2) (n2 := 32) (c2 := 64) rfl rfl (w := (((wr.alloc (.cells (wtA x) 72)).alloc (.cells (secA bs) 70)).drew).drew) P6.out (secA (x.b.take 32)).toList (by simp [secA, HX64.out]) (lo_src Q6.out) (by simp [secA, HX64.out, hbs.out]) (fun v hv => (Array.all_eq_true_iff_forall_mem.1 (secA_one _)) v (by simpa using hv))) ?_
            rw [lo_half _ _ HX64.out]
            refine hK _ _ ?_
            clear hK K
            try simp only [Act.put, List.setIfInBounds_toArray, List.set_cons_zero, List.set_cons_succ]
            refine wpAny_done (by kernel_rfl) ?_ _
            go_wp2_with fail
            obtain ⟨e0, e1, e2, e3, e4, e5⟩ := T.out _ _ hmix.out hBT2.out
            refine wp_region_tail 12 (by kernel_rfl) (by kernel_rfl) ?_
            simp only [List.take_succ_cons, List.take_zero, List.drop_succ_cons, List.drop_zero]
            iterate 11 still_step
            refine still_run rfl _ (exec_load 70 (.tmp 7) rfl ⟨wr.heap.size + 1, 0, none⟩ rfl _ e4) ?_
            refine wpStill_nil ?_
            obtain ⟨w3, hr, hM3, htn⟩ := e5.store keyed_int Try.underlying65 (by simp only [maxLen]; omega) (by trivial) (key_int x.place (by omega)) (mix (keepAt keep j) bs x.b)
            refine wpList_nov rfl (exec_mapUpdate 65 (.tmp 66) (.tmp 68) (.tmp 69) rfl _ _ _ rfl rfl rfl hr) ?_
            have HREL := RND.out _ w3 _ hBT2.out hM3 (by split <;> omega) htn.grown
            clear hM3 htn e0 e1 e2 e3 e4 e5 hr
            go_wp2_with fail
            go_roundw
            case rel => exact ⟨j + 1, by omega, by go_num, HREL.1, HREL.2⟩
            case measure => simp [intOf]; omega
          · have hc2 : ¬ kv % 4 = 2 := hc
            clear hc
            by_cases hc : kv % 4 = 3
            · have b1 : (kv % 4 == 1) = false := by rw [hc]; rfl
              have b2 : (kv % 4 == 2) = false := by rw [hc]; rfl
              have b3 : (kv % 4 == 3) = true := by rw [hc]; rfl
              have hm0 : mix (keepAt keep j) bs x.b = (bs.take 32 ++ x.b.drop 32) := by rw [hka.out, mix, if_neg (by omega), if_neg (by omega), if_pos hc]
              have hmix : Hid ((mix (keepAt keep j) bs x.b).length = 64) := Lib.hid (mix_len _ _ _ hbs.out hx64)
              have hBT3 : Hid (BT wr ((((wr.alloc (.cells (wtA x) 72)).alloc (.cells (secA bs) 70)).drew).drew.setRow (wr.heap.size + 1) (secA (bs.take 32 ++ x.b.drop 32))) x (mix (keepAt keep j) bs x.b)) := Lib.hid (by rw [hm0]; exact hBTH.out.drew.drew.put)
              have HX64 := Lib.hid hx64
              clear hm0 hx64 hc
              go_wp2_with (first | (with_reducible refine wpList_load_at rfl 72 (.tmp 16) rfl _ rfl _ hld ?_))
              refine wp_region_held_drew (S := (BootS g dk most.length cd wr.heap.size m x bs)) (by kernel_rfl) (hS0) (fun hHeld => ?_)
              refine wpAnyH_take (i := 0) (oi := { dst := some 28, op := Op.move (Operand.tmp 0), type := 24, pos := "plant.go:148", after := #[], guard := none }) (v := ?_) rfl (by kernel_rfl) (by kernel_rfl) (by kernel_rfl) (fun _ _ _ h => h) (Or.inl ⟨by rfl, ?hyt6_1⟩) (by assumption) ?restt6_1
              case hyt6_1 => (intro w hSw; (try dsimp only at hSw); go_simp; try with_reducible rfl)
              try simp only [Act.put, List.setIfInBounds_toArray, List.set_cons_zero, List.set_cons_succ]
              refine wpAnyH_take (i := 1) (oi := { dst := some 29, op := Op.nilCheck (Operand.tmp 28), type := 0, pos := "plant.go:148", after := #[{ on := 0, ground := Ground.data }], guard := none }) (v := ?_) rfl (by kernel_rfl) (by kernel_rfl) (by kernel_rfl) (fun _ _ _ h => h) (Or.inl ⟨by rfl, ?hyt6_4⟩) (by assumption) ?restt6_4
              case hyt6_4 => (intro w hSw; (try dsimp only at hSw); go_simp; try with_reducible rfl)
              try simp only [Act.put, List.setIfInBounds_toArray, List.set_cons_zero, List.set_cons_succ]
              refine wpAnyH_take (i := 2) (oi := { dst := some 30, op := Op.fieldAddr 64 (Operand.tmp 29) 0, type := 0, pos := "plant.go:148", after := #[{ on := 1, ground := Ground.data }], guard := none }) (v := ?_) rfl (by kernel_rfl) (by kernel_rfl) (by kernel_rfl) (fun _ _ _ h => h) (Or.inl ⟨by rfl, ?hyt6_7⟩) (by assumption) ?restt6_7
              case hyt6_7 => (intro w hSw; (try dsimp only at hSw); go_simp; try with_reducible rfl)
              try simp only [Act.put, List.setIfInBounds_toArray, List.set_cons_zero, List.set_cons_succ]
              refine wpAnyH_take (i := 3) (oi := { dst := some 31, op := Op.load 61 (Operand.tmp 30), type := 61, pos := "plant.go:148", after := #[{ on := 2, ground := Ground.data }], guard := none }) (v := ?_) rfl (by kernel_rfl) (by kernel_rfl) (by kernel_rfl) (fun _ _ _ h => h) (Or.inl ⟨by rfl, ?hyt6_10⟩) (by assumption) ?restt6_10
              case hyt6_10 => (intro w hSw; obtain ⟨s1, s2, s3, s4, s5⟩ := hSw; go_simp; try with_reducible rfl)
              try simp only [Act.put, List.setIfInBounds_toArray, List.set_cons_zero, List.set_cons_succ]
              refine wpAnyH_take (i := 4) (oi := { dst := some 32, op := Op.fieldAddr 72 (Operand.tmp 5) 0, type := 0, pos := "plant.go:148", after := #[], guard := none }) (v := ?_) rfl (by kernel_rfl) (by kernel_rfl) (by kernel_rfl) (fun _ _ _ h => h) (Or.inl ⟨by rfl, ?hyt6_13⟩) (by assumption) ?restt6_13
              case hyt6_13 => (intro w hSw; (try dsimp only at hSw); go_simp; try with_reducible rfl)
              try simp only [Act.put, List.setIfInBounds_toArray, List.set_cons_zero, List.set_cons_succ]
              refine wpAnyH_take (i := 5) (oi := { dst := some 33, op := Op.load 3 (Operand.tmp 32), type := 3, pos := "plant.go:148", after := #[{ on := 4, ground := Ground.data }], guard := none }) (v := ?_) rfl (by kernel_rfl) (by kernel_rfl) (by kernel_rfl) (fun _ _ _ h => h) (Or.inl ⟨by rfl, ?hyt6_16⟩) (by assumption) ?restt6_16
              case hyt6_16 => (intro w hSw; obtain ⟨s1, s2, s3, s4, s5⟩ := hSw; go_simp; try with_reducible rfl)
              try simp only [Act.put, List.setIfInBounds_toArray, List.set_cons_zero, List.set_cons_succ]
              refine wpAnyH_take (i := 6) (oi := { dst := some 34, op := Op.indexAddr 61 (Operand.tmp 31) (Operand.tmp 33), type := 0, pos := "plant.go:148", after := #[{ on := 3, ground := Ground.data }, { on := 5, ground := Ground.data }], guard := none }) (v := ?_) rfl (by kernel_rfl) (by kernel_rfl) (by kernel_rfl) (fun _ _ _ h => h) (Or.inl ⟨by rfl, ?hyt6_19⟩) (by assumption) ?restt6_19
              case hyt6_19 => (intro w hSw; (try dsimp only at hSw); go_simp; try with_reducible rfl)
              try simp only [Act.put, List.setIfInBounds_toArray, List.set_cons_zero, List.set_cons_succ]
              refine wpAnyH_take (i := 7) (oi := { dst := some 35, op := Op.fieldAddr 67 (Operand.tmp 34) 1, type := 0, pos := "plant.go:148", after := #[{ on := 6, ground := Ground.data }], guard := none }) (v := ?_) rfl (by kernel_rfl) (by kernel_rfl) (by kernel_rfl) (fun _ _ _ h => h) (Or.inl ⟨by rfl, ?hyt6_22⟩) (by assumption) ?restt6_22
              case hyt6_22 => (intro w hSw; (try dsimp only at hSw); go_simp; try with_reducible rfl)
              try simp only [Act.put, List.setIfInBounds_toArray, List.set_cons_zero, List.set_cons_succ]
              refine wpAnyH_take (i := 8) (oi := { dst := some 36, op := Op.load 65 (Operand.tmp 35), type := 65, pos := "plant.go:148", after := #[{ on := 7, ground := Ground.data }], guard := none }) (v := ?_) rfl (by kernel_rfl) (by kernel_rfl) (by kernel_rfl) (fun _ _ _ h => h) (Or.inl ⟨by rfl, ?hyt6_25⟩) (by assumption) ?restt6_25
              case hyt6_25 => (intro w hSw; obtain ⟨s1, s2, s3, s4, s5⟩ := hSw; go_simp; try with_reducible rfl)
              try simp only [Act.put, List.setIfInBounds_toArray, List.set_cons_zero, List.set_cons_succ]
              refine wpAnyH_take (i := 9) (oi := { dst := some 37, op := Op.fieldAddr 72 (Operand.tmp 5) 1, type := 0, pos := "plant.go:148", after := #[], guard := none }) (v := ?_) rfl (by kernel_rfl) (by kernel_rfl) (by kernel_rfl) (fun _ _ _ h => h) (Or.inl ⟨by rfl, ?hyt6_28⟩) (by assumption) ?restt6_28
              case hyt6_28 => (intro w hSw; (try dsimp only at hSw); go_simp; try with_reducible rfl)
              try simp only [Act.put, List.setIfInBounds_toArray, List.set_cons_zero, List.set_cons_succ]
              refine wpAnyH_take (i := 10) (oi := { dst := some 38, op := Op.load 3 (Operand.tmp 37), type := 3, pos := "plant.go:148", after := #[{ on := 9, ground := Ground.data }], guard := none }) (v := ?_) rfl (by kernel_rfl) (by kernel_rfl) (by kernel_rfl) (fun _ _ _ h => h) (Or.inl ⟨by rfl, ?hyt6_31⟩) (by assumption) ?restt6_31
              case hyt6_31 => (intro w hSw; obtain ⟨s1, s2, s3, s4, s5⟩ := hSw; go_simp; try with_reducible rfl)
              try simp only [Act.put, List.setIfInBounds_toArray, List.set_cons_zero, List.set_cons_succ]
              refine wpAnyH_take (i := 11) (oi := { dst := some 39, op := Op.lookup 65 (Operand.tmp 36) (Operand.tmp 38) false, type := 70, pos := "plant.go:148", after := #[{ on := 8, ground := Ground.data }, { on := 10, ground := Ground.data }], guard := none }) (v := ?_) rfl (by kernel_rfl) (by kernel_rfl) (by kernel_rfl) (fun _ _ _ h => h) (Or.inl ⟨by rfl, ?hyt6_34⟩) (by assumption) ?restt6_34
              case hyt6_34 => (intro w hSw; refine exec_lookup 65 (.tmp 36) (.tmp 38) false ?_ (.map (some m)) (.int .i64 x.place) (.agg (secA bs)) ?_ ?_ hSw.2.2.2.2 <;> rfl)
              try simp only [Act.put, List.setIfInBounds_toArray, List.set_cons_zero, List.set_cons_succ]
              refine wpAnyH_ready (rs := [12]) (by kernel_rfl) (by simp) (AllReadyH.cons (o := { dst := some 7, op := Op.alloc 70, type := 0, pos := "plant.go:148", after := #[], guard := none }) rfl (fun K hK => ?_) AllReadyH.nil)
              refine step_run rfl _ (exec_alloc 70 rfl (secA zeroS) (zero70 _)) ?_
              refine hK.out _ _ (hSA _) (fun hHeld => ?_)
              clear hK K
              try simp only [Act.put, List.setIfInBounds_toArray, List.set_cons_zero, List.set_cons_succ]
              refine wpAnyH_ready (rs := [13]) (by kernel_rfl) (by simp) (AllReadyH.cons (o := { dst := none, op := Op.store 70 (Operand.tmp 7) (Operand.tmp 39), type := 0, pos := "plant.go:148", after := #[{ on := 12, ground := Ground.data }, { on := 11, ground := Ground.data }, { on := 0, ground := Ground.phase }, { on := 1, ground := Ground.phase }, { on := 2, ground := Ground.phase }, { on := 3, ground := Ground.phase }, { on := 4, ground := Ground.phase }, { on := 5, ground := Ground.phase }, { on := 6, ground := Ground.phase }, { on := 7, ground := Ground.phase }, { on := 8, ground := Ground.phase }, { on := 9, ground := Ground.phase }, { on := 10, ground := Ground.phase }, { on := 11, ground := Ground.phase }, { on := 12, ground := Ground.phase }], guard := none }) rfl (fun K hK => ?_) AllReadyH.nil)
              refine step_nov rfl (exec_store 70 (.tmp 7) (.tmp 39) rfl ⟨(World.drew (wr.alloc (.cells (wtA x) 72))).heap.size, 0, none⟩ rfl (.agg (secA bs)) rfl (run_storeVar_new _ _ _ _ (by rw [secA_size, hbs.out]; exact info70) (by rw [secA_size, secA_size, hbs.out]; rfl) (secA_one _))) ?_
              refine hK.out _ _ (hSA _) (fun hHeld => ?_)
              clear hK K
              refine wpAnyH_done (by kernel_rfl) ?_ _
              go_wp2_with fail
              refine wp_region_any (by kernel_rfl) ?_
              change wpAny _ _ _ _ _ _ _ (World.drew _)
              refine wpAny_take (i := 0) (oi := { dst := some 54, op := Op.slice 70 (Operand.tmp 7) (some (Operand.const (Value.int IntKind.i64 32))) none none, type := 22, pos := "plant.go:155", after := #[], guard := none }) (v := ?_) rfl (by kernel_rfl) (by kernel_rfl) (by kernel_rfl) (fun _ _ _ h => h) (Or.inl ⟨by rfl, ?hyt5_2⟩) ?restt5_2
              case hyt5_2 => (intro w; go_simp; try with_reducible rfl)
              try simp only [Act.put, List.setIfInBounds_toArray, List.set_cons_zero, List.set_cons_succ]
              refine wpAny_take (i := 1) (oi := { dst := some 55, op := Op.fieldAddr 72 (Operand.tmp 5) 2, type := 0, pos := "plant.go:155", after := #[], guard := none }) (v := ?_) rfl (by kernel_rfl) (by kernel_rfl) (by kernel_rfl) (fun _ _ _ h => h) (Or.inl ⟨by rfl, ?hyt5_5⟩) ?restt5_5
              case hyt5_5 => (intro w; go_simp; try with_reducible rfl)
              try simp only [Act.put, List.setIfInBounds_toArray, List.set_cons_zero, List.set_cons_succ]
              refine wpAny_take (i := 2) (oi := { dst := some 56, op := Op.slice 70 (Operand.tmp 55) (some (Operand.const (Value.int IntKind.i64 32))) none none, type := 22, pos := "plant.go:155", after := #[{ on := 1, ground := Ground.data }], guard := none }) (v := ?_) rfl (by kernel_rfl) (by kernel_rfl) (by kernel_rfl) (fun _ _ _ h => h) (Or.inl ⟨by rfl, ?hyt5_8⟩) ?restt5_8
              case hyt5_8 => (intro w; go_simp; try with_reducible rfl)
              try simp only [Act.put, List.setIfInBounds_toArray, List.set_cons_zero, List.set_cons_succ]
              refine wpAny_ready (rs := [3]) (by kernel_rfl) (by simp) (AllReady.cons (o := { dst := some 57, op := Op.call { callee := Callee.builtin Builtin.copy, args := #[Operand.tmp 54, Operand.tmp 56], argTypes := #[22, 22] }, type := 3, pos := "plant.go:155", after := #[{ on := 0, ground := Ground.data }, { on := 2, ground := Ground.data }], guard := none }) rfl (fun K hK => ?_) AllReady.nil)
              refine step_run rfl _ (exec_copy (.tmp 54) (.tmp 56) 22 5 rfl Try.underlying22 (by kernel_rfl) (g := wr.heap.size + 1) (o' := 32) (n := 32) (c := 32) (b := wr.heap.size) (o2 := 34) (n2 := 32) (c2 := 32) rfl rfl (w := (((wr.alloc (.cells (wtA x) 72)).alloc (.cells (secA bs) 70)).drew).drew) P6.out (secA (x.b.drop 32)).toList (by simp [secA, HX64.out]) (hi_src Q6.out) (by simp [secA, HX64.out, hbs.out]) (fun v hv => (Array.all_eq_true_iff_forall_mem.1 (secA_one _)) v (by simpa using hv))) ?_
              rw [hi_half _ _ HX64.out hbs.out]
              refine hK _ _ ?_
              clear hK K
              try simp only [Act.put, List.setIfInBounds_toArray, List.set_cons_zero, List.set_cons_succ]
              refine wpAny_done (by kernel_rfl) ?_ _
              go_wp2_with fail
              obtain ⟨e0, e1, e2, e3, e4, e5⟩ := T.out _ _ hmix.out hBT3.out
              refine wp_region_tail 12 (by kernel_rfl) (by kernel_rfl) ?_
              simp only [List.take_succ_cons, List.take_zero, List.drop_succ_cons, List.drop_zero]
              iterate 11 still_step
              refine still_run rfl _ (exec_load 70 (.tmp 7) rfl ⟨wr.heap.size + 1, 0, none⟩ rfl _ e4) ?_
              refine wpStill_nil ?_
              obtain ⟨w3, hr, hM3, htn⟩ := e5.store keyed_int Try.underlying65 (by simp only [maxLen]; omega) (by trivial) (key_int x.place (by omega)) (mix (keepAt keep j) bs x.b)
              refine wpList_nov rfl (exec_mapUpdate 65 (.tmp 66) (.tmp 68) (.tmp 69) rfl _ _ _ rfl rfl rfl hr) ?_
              have HREL := RND.out _ w3 _ hBT3.out hM3 (by split <;> omega) htn.grown
              clear hM3 htn e0 e1 e2 e3 e4 e5 hr
              go_wp2_with fail
              go_roundw
              case rel => exact ⟨j + 1, by omega, by go_num, HREL.1, HREL.2⟩
              case measure => simp [intOf]; omega
            · have hc3 : ¬ kv % 4 = 3 := hc
              clear hc
              have b1 : (kv % 4 == 1) = false := by simpa using hc1
              have b2 : (kv % 4 == 2) = false := by simpa using hc2
              have b3 : (kv % 4 == 3) = false := by simpa using hc3
              have hm0 : mix (keepAt keep j) bs x.b = bs := by rw [hka.out, mix, if_neg hc1, if_neg hc2, if_neg hc3]
              have hmix : Hid ((mix (keepAt keep j) bs x.b).length = 64) := Lib.hid (mix_len _ _ _ hbs.out hx64)
              have hBT0 : Hid (BT wr (((wr.alloc (.cells (wtA x) 72)).alloc (.cells (secA bs) 70)).drew) x (mix (keepAt keep j) bs x.b)) := Lib.hid (by rw [hm0]; exact hBTH.out.drew)
              have HX64 := Lib.hid hx64
              clear hm0 hx64 hc1 hc2 hc3
              go_wp2_with (first | (with_reducible refine wpList_load_at rfl 72 (.tmp 16) rfl _ rfl _ hld ?_))
              refine wp_region_held_drew (S := (BootS g dk most.length cd wr.heap.size m x bs)) (by kernel_rfl) (hS0) (fun hHeld => ?_)
              refine wpAnyH_take (i := 0) (oi := { dst := some 28, op := Op.move (Operand.tmp 0), type := 24, pos := "plant.go:148", after := #[], guard := none }) (v := ?_) rfl (by kernel_rfl) (by kernel_rfl) (by kernel_rfl) (fun _ _ _ h => h) (Or.inl ⟨by rfl, ?hyt7_1⟩) (by assumption) ?restt7_1
              case hyt7_1 => (intro w hSw; (try dsimp only at hSw); go_simp; try with_reducible rfl)
              try simp only [Act.put, List.setIfInBounds_toArray, List.set_cons_zero, List.set_cons_succ]
              refine wpAnyH_take (i := 1) (oi := { dst := some 29, op := Op.nilCheck (Operand.tmp 28), type := 0, pos := "plant.go:148", after := #[{ on := 0, ground := Ground.data }], guard := none }) (v := ?_) rfl (by kernel_rfl) (by kernel_rfl) (by kernel_rfl) (fun _ _ _ h => h) (Or.inl ⟨by rfl, ?hyt7_4⟩) (by assumption) ?restt7_4
              case hyt7_4 => (intro w hSw; (try dsimp only at hSw); go_simp; try with_reducible rfl)
              try simp only [Act.put, List.setIfInBounds_toArray, List.set_cons_zero, List.set_cons_succ]
              refine wpAnyH_take (i := 2) (oi := { dst := some 30, op := Op.fieldAddr 64 (Operand.tmp 29) 0, type := 0, pos := "plant.go:148", after := #[{ on := 1, ground := Ground.data }], guard := none }) (v := ?_) rfl (by kernel_rfl) (by kernel_rfl) (by kernel_rfl) (fun _ _ _ h => h) (Or.inl ⟨by rfl, ?hyt7_7⟩) (by assumption) ?restt7_7
              case hyt7_7 => (intro w hSw; (try dsimp only at hSw); go_simp; try with_reducible rfl)
              try simp only [Act.put, List.setIfInBounds_toArray, List.set_cons_zero, List.set_cons_succ]
              refine wpAnyH_take (i := 3) (oi := { dst := some 31, op := Op.load 61 (Operand.tmp 30), type := 61, pos := "plant.go:148", after := #[{ on := 2, ground := Ground.data }], guard := none }) (v := ?_) rfl (by kernel_rfl) (by kernel_rfl) (by kernel_rfl) (fun _ _ _ h => h) (Or.inl ⟨by rfl, ?hyt7_10⟩) (by assumption) ?restt7_10
              case hyt7_10 => (intro w hSw; obtain ⟨s1, s2, s3, s4, s5⟩ := hSw; go_simp; try with_reducible rfl)
              try simp only [Act.put, List.setIfInBounds_toArray, List.set_cons_zero, List.set_cons_succ]
              refine wpAnyH_take (i := 4) (oi := { dst := some 32, op := Op.fieldAddr 72 (Operand.tmp 5) 0, type := 0, pos := "plant.go:148", after := #[], guard := none }) (v := ?_) rfl (by kernel_rfl) (by kernel_rfl) (by kernel_rfl) (fun _ _ _ h => h) (Or.inl ⟨by rfl, ?hyt7_13⟩) (by assumption) ?restt7_13
              case hyt7_13 => (intro w hSw; (try dsimp only at hSw); go_simp; try with_reducible rfl)
              try simp only [Act.put, List.setIfInBounds_toArray, List.set_cons_zero, List.set_cons_succ]
              refine wpAnyH_take (i := 5) (oi := { dst := some 33, op := Op.load 3 (Operand.tmp 32), type := 3, pos := "plant.go:148", after := #[{ on := 4, ground := Ground.data }], guard := none }) (v := ?_) rfl (by kernel_rfl) (by kernel_rfl) (by kernel_rfl) (fun _ _ _ h => h) (Or.inl ⟨by rfl, ?hyt7_16⟩) (by assumption) ?restt7_16
              case hyt7_16 => (intro w hSw; obtain ⟨s1, s2, s3, s4, s5⟩ := hSw; go_simp; try with_reducible rfl)
              try simp only [Act.put, List.setIfInBounds_toArray, List.set_cons_zero, List.set_cons_succ]
              refine wpAnyH_take (i := 6) (oi := { dst := some 34, op := Op.indexAddr 61 (Operand.tmp 31) (Operand.tmp 33), type := 0, pos := "plant.go:148", after := #[{ on := 3, ground := Ground.data }, { on := 5, ground := Ground.data }], guard := none }) (v := ?_) rfl (by kernel_rfl) (by kernel_rfl) (by kernel_rfl) (fun _ _ _ h => h) (Or.inl ⟨by rfl, ?hyt7_19⟩) (by assumption) ?restt7_19
              case hyt7_19 => (intro w hSw; (try dsimp only at hSw); go_simp; try with_reducible rfl)
              try simp only [Act.put, List.setIfInBounds_toArray, List.set_cons_zero, List.set_cons_succ]
              refine wpAnyH_take (i := 7) (oi := { dst := some 35, op := Op.fieldAddr 67 (Operand.tmp 34) 1, type := 0, pos := "plant.go:148", after := #[{ on := 6, ground := Ground.data }], guard := none }) (v := ?_) rfl (by kernel_rfl) (by kernel_rfl) (by kernel_rfl) (fun _ _ _ h => h) (Or.inl ⟨by rfl, ?hyt7_22⟩) (by assumption) ?restt7_22
              case hyt7_22 => (intro w hSw; (try dsimp only at hSw); go_simp; try with_reducible rfl)
              try simp only [Act.put, List.setIfInBounds_toArray, List.set_cons_zero, List.set_cons_succ]
              refine wpAnyH_take (i := 8) (oi := { dst := some 36, op := Op.load 65 (Operand.tmp 35), type := 65, pos := "plant.go:148", after := #[{ on := 7, ground := Ground.data }], guard := none }) (v := ?_) rfl (by kernel_rfl) (by kernel_rfl) (by kernel_rfl) (fun _ _ _ h => h) (Or.inl ⟨by rfl, ?hyt7_25⟩) (by assumption) ?restt7_25
              case hyt7_25 => (intro w hSw; obtain ⟨s1, s2, s3, s4, s5⟩ := hSw; go_simp; try with_reducible rfl)
              try simp only [Act.put, List.setIfInBounds_toArray, List.set_cons_zero, List.set_cons_succ]
              refine wpAnyH_take (i := 9) (oi := { dst := some 37, op := Op.fieldAddr 72 (Operand.tmp 5) 1, type := 0, pos := "plant.go:148", after := #[], guard := none }) (v := ?_) rfl (by kernel_rfl) (by kernel_rfl) (by kernel_rfl) (fun _ _ _ h => h) (Or.inl ⟨by rfl, ?hyt7_28⟩) (by assumption) ?restt7_28
              case hyt7_28 => (intro w hSw; (try dsimp only at hSw); go_simp; try with_reducible rfl)
              try simp only [Act.put, List.setIfInBounds_toArray, List.set_cons_zero, List.set_cons_succ]
              refine wpAnyH_take (i := 10) (oi := { dst := some 38, op := Op.load 3 (Operand.tmp 37), type := 3, pos := "plant.go:148", after := #[{ on := 9, ground := Ground.data }], guard := none }) (v := ?_) rfl (by kernel_rfl) (by kernel_rfl) (by kernel_rfl) (fun _ _ _ h => h) (Or.inl ⟨by rfl, ?hyt7_31⟩) (by assumption) ?restt7_31
              case hyt7_31 => (intro w hSw; obtain ⟨s1, s2, s3, s4, s5⟩ := hSw; go_simp; try with_reducible rfl)
              try simp only [Act.put, List.setIfInBounds_toArray, List.set_cons_zero, List.set_cons_succ]
              refine wpAnyH_take (i := 11) (oi := { dst := some 39, op := Op.lookup 65 (Operand.tmp 36) (Operand.tmp 38) false, type := 70, pos := "plant.go:148", after := #[{ on := 8, ground := Ground.data }, { on := 10, ground := Ground.data }], guard := none }) (v := ?_) rfl (by kernel_rfl) (by kernel_rfl) (by kernel_rfl) (fun _ _ _ h => h) (Or.inl ⟨by rfl, ?hyt7_34⟩) (by assumption) ?restt7_34
              case hyt7_34 => (intro w hSw; refine exec_lookup 65 (.tmp 36) (.tmp 38) false ?_ (.map (some m)) (.int .i64 x.place) (.agg (secA bs)) ?_ ?_ hSw.2.2.2.2 <;> rfl)
              try simp only [Act.put, List.setIfInBounds_toArray, List.set_cons_zero, List.set_cons_succ]
              refine wpAnyH_ready (rs := [12]) (by kernel_rfl) (by simp) (AllReadyH.cons (o := { dst := some 7, op := Op.alloc 70, type := 0, pos := "plant.go:148", after := #[], guard := none }) rfl (fun K hK => ?_) AllReadyH.nil)
              refine step_run rfl _ (exec_alloc 70 rfl (secA zeroS) (zero70 _)) ?_
              refine hK.out _ _ (hSA _) (fun hHeld => ?_)
              clear hK K
              try simp only [Act.put, List.setIfInBounds_toArray, List.set_cons_zero, List.set_cons_succ]
              refine wpAnyH_ready (rs := [13]) (by kernel_rfl) (by simp) (AllReadyH.cons (o := { dst := none, op := Op.store 70 (Operand.tmp 7) (Operand.tmp 39), type := 0, pos := "plant.go:148", after := #[{ on := 12, ground := Ground.data }, { on := 11, ground := Ground.data }, { on := 0, ground := Ground.phase }, { on := 1, ground := Ground.phase }, { on := 2, ground := Ground.phase }, { on := 3, ground := Ground.phase }, { on := 4, ground := Ground.phase }, { on := 5, ground := Ground.phase }, { on := 6, ground := Ground.phase }, { on := 7, ground := Ground.phase }, { on := 8, ground := Ground.phase }, { on := 9, ground := Ground.phase }, { on := 10, ground := Ground.phase }, { on := 11, ground := Ground.phase }, { on := 12, ground := Ground.phase }], guard := none }) rfl (fun K hK => ?_) AllReadyH.nil)
              refine step_nov rfl (exec_store 70 (.tmp 7) (.tmp 39) rfl ⟨(World.drew (wr.alloc (.cells (wtA x) 72))).heap.size, 0, none⟩ rfl (.agg (secA bs)) rfl (run_storeVar_new _ _ _ _ (by rw [secA_size, hbs.out]; exact info70) (by rw [secA_size, secA_size, hbs.out]; rfl) (secA_one _))) ?_
              refine hK.out _ _ (hSA _) (fun hHeld => ?_)
              clear hK K
              refine wpAnyH_done (by kernel_rfl) ?_ _
              go_wp2_with fail
              obtain ⟨e0, e1, e2, e3, e4, e5⟩ := T.out _ _ hmix.out hBT0.out
              refine wp_region_tail 12 (by kernel_rfl) (by kernel_rfl) ?_
              simp only [List.take_succ_cons, List.take_zero, List.drop_succ_cons, List.drop_zero]
              iterate 11 still_step
              refine still_run rfl _ (exec_load 70 (.tmp 7) rfl ⟨wr.heap.size + 1, 0, none⟩ rfl _ e4) ?_
              refine wpStill_nil ?_
              obtain ⟨w3, hr, hM3, htn⟩ := e5.store keyed_int Try.underlying65 (by simp only [maxLen]; omega) (by trivial) (key_int x.place (by omega)) (mix (keepAt keep j) bs x.b)
              refine wpList_nov rfl (exec_mapUpdate 65 (.tmp 66) (.tmp 68) (.tmp 69) rfl _ _ _ rfl rfl rfl hr) ?_
              have HREL := RND.out _ w3 _ hBT0.out hM3 (by split <;> omega) htn.grown
              clear hM3 htn e0 e1 e2 e3 e4 e5 hr
              go_wp2_with fail
              go_roundw
              case rel => exact ⟨j + 1, by omega, by go_num, HREL.1, HREL.2⟩
              case measure => simp [intOf]; omega
      · obtain rfl : j = l.length := by omega
        have gne : g ∉ ms := fun hm => (List.nodup_cons.1 hnd).1 (by simp [hm])
        have bw := HB.out.kept (w' := wr) (ht.block g HB.out.lt gne)
        obtain ⟨⟨k0, k1, k2, k3, k4⟩, ⟨z0, z1, z2, z3, z4⟩⟩ := bw.cells
        have HBW := Lib.hid bw
        clear bw
        go_wp2_with fail
        go_end0
        have hmm := HMJ.out
        rw [List.take_length] at hmm
        refine ⟨rfl, (((ht.mono (fun k hk => List.mem_cons_of_mem _ hk)).set (.inl (by simp)) _ _).set (.inl (by simp)) _ _).set (.inl (by simp)) _ _, ((HBW.out.waits _).off false).fuse (-1), fun i hi hi' => ?_⟩
        obtain ⟨s', f', d1, d2, d3⟩ := hmm i hi hi'
        have hne : ms[i] ≠ g := fun e => gne (by rw [← e]; simp)
        exact ⟨s', f', d1.block ((Below.heap_setCell _ _ _ _ (by simpa using hne)).trans ((Below.heap_setCell _ _ _ _ (by simpa using hne)).trans (Below.heap_setCell _ _ _ _ (by simpa using hne)))), by omega, d3⟩

theorem boot_any {w : World} {g : Nat} {p : PS} {O : List Nat} (h : IsP w g p O) {vk : Value} {keep : List Int} (hk : IntsAt w vk keep) (hst : p.steps < 1099511627776) :
    Calls Try.prog 14 #[.pointer (some ⟨g, 0, none⟩), vk] w fun e w' => e = .returned (.tuple #[]) ∧ Left w g (p.boot keep) O w' := by
  obtain ⟨hok, dk, cd, D, v1, ms, h1, h2, h3, h4, h5, h6, h7, h8, rfl, h10⟩ := h
  have hw0 := hok.fuse
  have hs0 := hok.steps
  have hnd := h10
  simp only [List.nodup_cons, List.mem_cons, List.mem_append, not_or] at hnd
  refine (boot_in h1 h4 h6 (fun i h h' => (h7 i h h').2.1) hst p.waits hok.sec (fun i h h' => ?_) (fun x hx => ?_) h8 h10 hk).mono ?_
  · obtain ⟨x1, x2, s, f, c, y1, y2⟩ := h7 i h h'
    exact ⟨s, f, c, by omega, y2⟩
  · obtain ⟨a, n, hn, hp⟩ := hok.wait x hx
    exact ⟨a, n, hn, hp, (hok.most n (List.mem_of_getElem? hn)).2⟩
  · rintro e w' ⟨rfl, t, b, m⟩
    have tw : Turn (g :: dk :: ((bufBlock v1).toList ++ ms)) w w' := t.mono fun k hk => by
      rcases List.mem_cons.1 hk with hk | hk
      · exact List.mem_cons.2 (.inl hk)
      · exact List.mem_cons_of_mem _ (List.mem_cons_of_mem _ (List.mem_append_right _ hk))
    refine ⟨rfl, g :: dk :: ((bufBlock (.slice none 0 0)).toList ++ ms), ⟨⟨hok.disks, hok.most, bootAll_len keep _ _ _ hok.sec fun x hx => (hok.wait x hx).1, by simp [PS.boot], by simp [PS.boot], hs0⟩, dk, cd, D, .slice none 0 0, ms, b, h2, h3, ?_, h5, h6, fun i hi hi' => ?_, ⟨rfl, .inl ⟨rfl, .inl rfl⟩⟩, rfl, ?_⟩, tw, ?_⟩
    · exact (t.block dk (Array.getElem?_eq_some_iff.1 h4).1 (by simp; exact ⟨fun e => hnd.1.1 e.symm, hnd.2.1.2⟩)).trans h4
    · obtain ⟨x1, x2, _⟩ := h7 i hi hi'
      obtain ⟨s, f, c, y1, y2⟩ := m i hi hi'
      refine ⟨x1, x2, s, f, c, ?_, y2⟩
      show (s : Int) + ((List.length ([] : List Wt) : Nat) : Int) ≤ p.steps
      simp
      exact y1
    · simp only [bufBlock, Option.toList_none, List.nil_append, List.nodup_cons, List.mem_cons, not_or]
      exact ⟨⟨hnd.1.1, hnd.1.2.2⟩, hnd.2.1.2, (List.nodup_append.1 hnd.2.2).2.1⟩
    · intro k hk
      simp only [bufBlock, Option.toList_none, List.nil_append, List.mem_cons] at hk
      left
      rcases hk with hk | hk | hk
      · exact List.mem_cons.2 (.inl hk)
      · exact List.mem_cons_of_mem _ (List.mem_cons.2 (.inl hk))
      · exact List.mem_cons_of_mem _ (List.mem_cons_of_mem _ (List.mem_append_right _ hk))
/-- On, Steps, Fuse, Len of a plant. -/
theorem on_is {w : World} {g : Nat} {p : PS} {O : List Nat} (h : IsP w g p O) : Calls Try.prog 24 #[.pointer (some ⟨g, 0, none⟩)] w fun e w' => e = .returned (.bool (!p.off)) ∧ w' = w := by
  obtain ⟨_, _, _, _, _, _, h1, _⟩ := h
  exact on_any h1
theorem steps_is {w : World} {g : Nat} {p : PS} {O : List Nat} (h : IsP w g p O) : Calls Try.prog 16 #[.pointer (some ⟨g, 0, none⟩)] w fun e w' => e = .returned (.int .i64 p.steps) ∧ w' = w := by
  obtain ⟨_, _, _, _, _, _, h1, _⟩ := h
  exact steps_any h1
theorem fuse_is {w : World} {g : Nat} {p : PS} {O : List Nat} (h : IsP w g p O) (n : Int) (hn : n ≤ 9223372036854775807) : Calls Try.prog 23 #[.pointer (some ⟨g, 0, none⟩), .int .i64 n] w fun e w' => e = .returned (.tuple #[]) ∧ Left w g (p.fuseAt n) O w' := by
  have hP := h
  obtain ⟨hok, _, _, _, _, _, h1, _⟩ := h
  have hw0 := hok.fuse
  refine (fuse_any h1 n).mono ?_
  rintro e w' ⟨rfl, ht, hb⟩
  have := hP.reblk ht h1 hb (Int.le_refl _) (by split <;> omega)
  refine ⟨rfl, O, ?_, Turn.of_touch ht hP.mem, fun _ hk => .inl hk⟩
  unfold PS.fuseAt
  split
  · rename_i ho
    rw [if_pos ho] at this
    exact this
  · rename_i ho
    rw [if_neg ho] at this
    exact this
theorem len_is {w : World} {g : Nat} {p : PS} {O : List Nat} (h : IsP w g p O) (dev : Int) : Calls Try.prog 20 #[.pointer (some ⟨g, 0, none⟩), .int .i64 dev] w fun e w' => e = .returned (.tuple #[.int .i64 (if dev < 0 ∨ (p.most.length : Int) ≤ dev then 0 else (p.most.getD dev.toNat 0 : Nat)), .int .i64 (if dev < 0 ∨ (p.most.length : Int) ≤ dev then 31 else 0)]) ∧ w' = w := by
  obtain ⟨hok, dk, cd, D, v1, ms, h1, h2, h3, h4, h5, h6, h7, h8, rfl, h10⟩ := h
  exact len_any h1 (disks_of h4 h2 h6 (fun i h h' => ⟨(h7 i h h').1, (h7 i h h').2.1⟩)) dev
end Go.Proofs.Ytpnijopbbbgffaa.plantw
