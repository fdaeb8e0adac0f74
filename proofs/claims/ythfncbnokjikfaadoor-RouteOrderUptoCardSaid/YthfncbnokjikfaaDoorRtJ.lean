/- Layer 11: List: the routes by rising prefixes. Conditions: as each theorem says. -/
import Derived.Test.YthfncbnokjikfaaDoorRtF
import Derived.Test.YthfncbnokjikfaaDoorIter
namespace Go.Proofs.YthfncbnokjikfaaDoor.routew
open Go.RowKit
open Go.Proofs.YthfncbnokjikfaaDoor.routep
open Go.Proofs.YthfncbnokjikfaaDoor.mapfn
open Go.Proofs.YthfncbnokjikfaaDoor.buf
open Go.Sort
/-- The prefixes, rising. -/
def sortedKeys (l : Tab) : List Key := (l.map (·.1)).mergeSort leB
def listOf (l : Tab) : Tab := (sortedKeys l).map fun k => (k, (routep.get l k).getD [])
theorem sortedKeys_len (l : Tab) : (sortedKeys l).length = l.length := by unfold sortedKeys; rw [List.length_mergeSort, List.length_map]
theorem mem_sortedKeys {l : Tab} {k : Key} : k ∈ sortedKeys l ↔ k ∈ l.map (·.1) := (List.mergeSort_perm _ _).mem_iff
/-- What the map's datum has for keys. -/
theorem keys_perm {w : World} {b : Nat} {l : Tab} {f : Lit → Option Hd} {D : DataW Unit} (hown : w.ownsMap Tryd.prog 9 hdE.R b l.length D) (hh : ∀ k, Go.Maps.has D k = (f k).isSome) (h : Holds w l f) (hn : (l.map (·.1)).Nodup) : (l.map (·.1)).Perm (strKeys D) := by
  refine Collected.perm (D0 := D) (left := fun _ => false) ⟨hn, fun x => ?_⟩ hown keyed_string Tryd.underlying9 (fun _ => rfl)
  rw [hh]
  constructor
  · intro hx
    cases hg : routep.get l x with
    | none => exact absurd hx (get_none.1 hg)
    | some to =>
      obtain ⟨y, hy, _⟩ := (h x).2 to hg
      rw [hy]
      exact ⟨rfl, rfl⟩
  · rintro ⟨hx, _⟩
    cases hg : routep.get l x with
    | none => rw [(h x).1 hg] at hx; cases hx
    | some to => exact Decidable.byContradiction fun hc => by rw [get_none.2 hc] at hg; cases hg
/-- A row of texts. -/
def StrsAt (w : World) (v : Value) (ks : List Key) : Prop := ∃ p c, v = .slice p ks.length c ∧ ∀ i (hi : i < ks.length), ∃ b, p = some ⟨b, 0, none⟩ ∧ w.cell? ⟨b, i, none⟩ = some (.string ⟨ks[i].toArray⟩)
theorem StrsAt.below {w w' : World} {v : Value} {ks : List Key} (h : StrsAt w v ks) (hb : Below w.heap.size w w') : StrsAt w' v ks := by
  obtain ⟨p, c, h1, h2⟩ := h
  refine ⟨p, c, h1, fun i hi => ?_⟩
  obtain ⟨b, h3, h4⟩ := h2 i hi
  exact ⟨b, h3, hb.keptCell h4⟩
theorem keys_any {w : World} {g b : Nat} {mem : Int} {l : Tab} (h : TabAt w g b mem l) (hn : (l.map (·.1)).Nodup) (hl : l.length ≤ 32) :
    Calls Tryd.prog 26 #[.func (.func 38) #[] #[.pointer (some ⟨w.heap.size, 0, none⟩)]] (w.alloc (.cells #[.map (some b)] 55)) fun e w' => ∃ v, e = .returned v ∧ StrsAt w' v (sortedKeys l) ∧ Below w.heap.size w w' := by
  obtain ⟨h1, f, ⟨D, hown, hsz, hh, _⟩, hH⟩ := h
  have hp := keys_perm hown hh hH hn
  refine ((callsIn_wide (n := 5)).1 (Tryd.slices_Sorted_keys_26_27 b l.length D hdE.R w hown (by rw [hsz]; simp only [maxLen]; omega) (by rw [hsz]; omega))).mono ?_
  rintro e w' ⟨v, ss, rfl, hS, hrow, hnil, hb⟩
  have hk : ss.mergeSort (fun x y => decide (x ≤ y)) = sortedKeys l := mergeSort_of_perm (hS.trans hp.symm)
  have hlen : ss.length = (sortedKeys l).length := by rw [← hk, List.length_mergeSort]
  rw [hk, hlen] at hrow
  refine ⟨v, rfl, ?_, ((Below.refl _ w).alloc (Nat.le_refl _) _).trans (hb.mono (by simp))⟩
  obtain ⟨q1, ⟨rfl, q2⟩ | ⟨gg, cap, cur, rfl, r1, r2, r3, r4, r5, r6⟩⟩ := hrow
  · exact ⟨none, 0, by rw [q2], fun i hi => by omega⟩
  · refine ⟨_, cap, rfl, fun i hi => ⟨gg, rfl, ?_⟩⟩
    rw [cells_at r2, take_get r6 (by omega)]
    simp [hi, encStr]
/-- A route of one's own: its row of numbers is new. -/
def OutRow (B : Nat) (W : World) (r : RtV) : Prop := r.k.size ≤ maxLen ∧ r.to.length ≤ 1048576 ∧ ∃ g c cur, r.v = .slice (some ⟨g, 0, none⟩) r.to.length c ∧ B ≤ g ∧ W.heap[g]? = some (.cells cur 3 (0, 0)) ∧ r.to.length ≤ c ∧ c ≤ maxLen ∧ cur.size = c ∧ cur.toList.take r.to.length = r.to.map (Value.int .i64)
def rtCells (r : RtV) : List Value := [.string r.k, r.v]
/-- A row of routes of one's own. -/
structure OutAt (B : Nat) (W : World) (v : Value) (rs : List RtV) : Prop where
  buf : Buf W 25 2 v rs.length (rs.flatMap rtCells)
  new : ∀ g, bufBlock v = some g → B ≤ g
  rows : ∀ r ∈ rs, OutRow B W r
theorem OutRow.keep {B : Nat} {W W' : World} {r : RtV} (h : OutRow B W r) (hk : ∀ (g : Nat) (cur : Array Value), W.heap[g]? = some (Obj.cells cur 3 (0, 0)) → W'.heap[g]? = W.heap[g]?) : OutRow B W' r := by
  obtain ⟨h1, h2, g, c, cur, h3, h4, h5, h6⟩ := h
  exact ⟨h1, h2, g, c, cur, h3, h4, (hk g cur h5).trans h5, h6⟩
theorem OutRow.ok {B : Nat} {W : World} {r : RtV} (h : OutRow B W r) : r.Ok W := by
  obtain ⟨h1, h2, g, c, cur, h3, h4, h5, h6, h7, h8, h9⟩ := h
  refine ⟨h1, h2, ?_⟩
  rw [h3]
  refine ⟨by omega, .inr ⟨g, 0, c, rfl, (Array.getElem?_eq_some_iff.1 h5).1, h6, fun i hi => ?_⟩⟩
  rw [cells_at h5, take_get h9 (by omega)]
  simp [hi]
theorem OutAt.below {B : Nat} {W W' : World} {v : Value} {rs : List RtV} (h : OutAt B W v rs) (hb : Below W.heap.size W W') : OutAt B W' v rs :=
  ⟨h.buf.kept fun k hk => hb.block k (h.buf.lt k hk), h.new, fun r hr => (h.rows r hr).keep fun g _ hg => hb.block g (Array.getElem?_eq_some_iff.1 hg).1⟩
theorem rtCells_at : ∀ (l : List RtV) i (h : i < l.length), (l.flatMap rtCells)[i * 2]? = some (.string l[i].k) ∧ (l.flatMap rtCells)[i * 2 + 1]? = some l[i].v
  | [], i, h => by simp at h
  | x :: l, 0, _ => by simp [rtCells]
  | x :: l, i + 1, h => by
    have := rtCells_at l i (by simpa using h)
    rw [List.flatMap_cons, show (i + 1) * 2 = i * 2 + 2 by omega, show i * 2 + 2 + 1 = i * 2 + 1 + 2 by omega, List.getElem?_append_right (by simp [rtCells]), List.getElem?_append_right (by simp [rtCells])]
    simpa [rtCells] using this
theorem OutAt.routes {B : Nat} {W : World} {v : Value} {rs : List RtV} (h : OutAt B W v rs) : ∃ A c, v = .slice A rs.length c ∧ RoutesIn W A rs := by
  obtain ⟨⟨h1, ⟨h2, h3⟩ | ⟨g, cap, cur, rfl, h3, h4, h5, h6, h7, h8⟩⟩, h9, h10⟩ := h
  · obtain rfl := List.eq_nil_of_length_eq_zero h2
    rcases h3 with rfl | ⟨g, rfl⟩
    · exact ⟨_, _, rfl, fun i hi => by simp at hi⟩
    · exact ⟨_, _, rfl, fun i hi => by simp at hi⟩
  · refine ⟨_, cap, rfl, fun i hi => ⟨g, 0, rfl, (Array.getElem?_eq_some_iff.1 h3).1, (h10 _ (List.getElem_mem hi)).ok, ?_, ?_⟩⟩
    · rw [cells_at h3, take_get h8 (by omega), Nat.zero_add]
      exact (rtCells_at rs i hi).1
    · rw [cells_at h3, take_get h8 (by omega), Nat.zero_add]
      exact (rtCells_at rs i hi).2
/-- Behind the append of a route. -/
theorem OutAt.add {B : Nat} {W W1 W3 : World} {v : Value} {rs : List RtV} {r : RtV} (h : OutAt B W v rs) (hB : B ≤ W.heap.size) (h1 : Below W.heap.size W W1) (hr : OutRow B W1 r) {gg cap n : Nat} (hn : rs.length = n) (hbuf : Buf W3 25 2 (.slice (some ⟨gg, 0, none⟩) (n + 1) cap) (n + 1) (rs.flatMap rtCells ++ [.string r.k, r.v])) (hg : W1.grownBy W3 (bufBlock v)) (hat : bufBlock v = some gg ∨ gg = W1.heap.size) : OutAt B W3 (.slice (some ⟨gg, 0, none⟩) (n + 1) cap) (rs ++ [r]) := by
  subst hn
  have e : (rs ++ [r]).flatMap rtCells = rs.flatMap rtCells ++ [.string r.k, r.v] := by rw [List.flatMap_append]; rfl
  have hsz := h1.size
  have hlt := h.buf.lt
  have hne : ∀ (g : Nat) (cur : Array Value), W1.heap[g]? = some (.cells cur 3 (0, 0)) → W3.heap[g]? = W1.heap[g]? := fun g cur hgc => by
    refine hg.block g (Array.getElem?_eq_some_iff.1 hgc).1 fun e => ?_
    obtain ⟨_, ⟨_, h3⟩ | ⟨g', cap', cur', rfl, h3, _, h5, _⟩⟩ := h.buf
    · rcases h3 with rfl | ⟨g', rfl⟩ <;> simp [bufBlock] at e
    · have e' : bufBlock (.slice (some ⟨g', 0, none⟩) rs.length cap') = some g' := by simp [bufBlock]; omega
      rw [e'] at e
      injection e with e
      subst e
      have := (h1.block g (Array.getElem?_eq_some_iff.1 h3).1).trans h3
      rw [this] at hgc
      simp at hgc
  refine ⟨by rw [List.length_append, e]; exact hbuf, fun g hgg => ?_, fun x hx => ?_⟩
  · have : g = gg := by
      unfold bufBlock at hgg
      simp only at hgg
      split at hgg
      · cases hgg
      · injection hgg with hgg; exact hgg.symm
    subst this
    rcases hat with h2 | h2
    · exact h.new g h2
    · omega
  · rcases List.mem_append.1 hx with hx | hx
    · refine (h.rows x hx).keep fun g cur hgc => ?_
      have h2 := h1.block g (Array.getElem?_eq_some_iff.1 hgc).1
      exact (hne g cur (h2.trans hgc)).trans h2
    · obtain rfl : x = r := by simpa using hx
      exact hr.keep hne
theorem FreshInts.row {w w' : World} {v : Value} {zs : List Int} (h : FreshInts w v zs w') {k : ByteArray} (hk : k.size ≤ maxLen) (hz : zs.length ≤ 1048576) {B : Nat} (hB : B ≤ w.heap.size) : OutRow B w' ⟨k, zs, v⟩ := by
  obtain ⟨hb, g, c, cur, h1, h2, h3⟩ := h
  exact ⟨hk, hz, g, c, cur, h1, by omega, h3⟩
/-- A look-up without a word whether it is there. -/
theorem look1_tab {w : World} {g b : Nat} {mem : Int} {l : Tab} (h : TabAt w g b mem l) (s : ByteArray) (hs : s.size ≤ maxLen) {to : List Int} (hg : routep.get l s.data.toList = some to) :
    ∃ x : Hd, (∀ W : World, W.heap[b]? = w.heap[b]? → (Instr.lookup 55 (.map (some b)) (.string s) false).run Tryd.prog W = .ok x.v W) ∧ IntsAt w x.v to := by
  obtain ⟨h1, f, h2, h3⟩ := h
  have H : ∀ W : World, W.heap[b]? = w.heap[b]? → _ := fun W hW => (h2.block hW).look (t := 55) keyed_string Tryd.underlying55 (zero_ints W) (key_string s hs)
  obtain ⟨x, hx, hi⟩ := (h3 _).2 to hg
  rw [hx] at H
  exact ⟨x, H, hi⟩
theorem info25f : (Tryd.prog.info? 25).map (fun i => (i.zero, i.size, i.bytes)) = some (some (.agg #[.string ⟨#[]⟩, .slice none 0 0]), 2, 40) := by kernel_rfl
set_option maxRecDepth 100000 in
set_option maxHeartbeats 2000000 in
theorem list_any {w : World} {g b : Nat} {mem : Int} {l : Tab} (h : TabAt w g b mem l) (hn : (l.map (·.1)).Nodup) (hl : l.length ≤ 32) (hr : Rows l) (hks : ∀ p ∈ l, p.1.length ≤ 8) :
    Calls Tryd.prog 14 #[.pointer (some ⟨g, 0, none⟩)] w fun e w' => ∃ v rs, e = .returned v ∧ Below w.heap.size w w' ∧ OutAt w.heap.size w' v rs ∧ tabOf rs = listOf l := by
  have c1 : w.cell? ⟨g, 1, none⟩ = some (.map (some b)) := cells_at h.blk 1
  have HK := Lib.hid ((callsIn_wide (n := 5)).1 (Tryd.maps_Keys_27 (some b) w))
  have HS := Lib.hid (keys_any h hn hl)
  have H := Lib.hid h
  have HR := Lib.hid hr
  have HN := Lib.hid hn
  have HKS := Lib.hid hks
  clear h hr hn hks
  go_enter Tryd.func14, Tryd.ntmps14
  go_wp2_with fail
  refine HK.out.mono ?_
  rintro e w1 ⟨rfl, rfl⟩
  go_wp2_with fail
  refine HS.out.mono ?_
  rintro e w2 ⟨vK, rfl, hK, b2⟩
  obtain ⟨pk, ck, rfl, _⟩ := id hK
  obtain ⟨K, eK⟩ : ∃ K, sortedKeys l = K := ⟨_, rfl⟩
  have hKl : K.length = l.length := by rw [← eK]; exact sortedKeys_len l
  rw [eK] at hK
  rw [eK]
  have HEK := Lib.hid eK
  have HKL := Lib.hid hKl
  have SK := Lib.hid hK
  have HB2 := Lib.hid b2
  have h32 : K.length ≤ 32 := by omega
  clear HS HK hK b2 eK hKl c1
  go_wp2_with fail
  go_loopw [13, 3] (fun i v3 wr => ∃ (k : Nat) (rs : List RtV), k ≤ K.length ∧ i = .int .i64 k ∧ rs.length = k ∧ Below w2.heap.size w2 wr ∧ OutAt w2.heap.size wr v3 rs ∧ tabOf rs = (listOf l).take k) (fun i _ _ => K.length - (intOf i).toNat)
  case atStart => exact ⟨0, [], by omega, rfl, rfl, Below.refl _ _, ⟨⟨rfl, .inl ⟨rfl, .inl rfl⟩⟩, fun g h => by simp [bufBlock] at h, fun r h => by cases h⟩, by simp [tabOf]⟩
  case round =>
    obtain ⟨k, rs, hk, rfl, hrs, hbw, hO, htab⟩ := hrel
    by_cases hlt : k < K.length
    · have hlt' : (k : Int) < K.length := by omega
      obtain ⟨x, ex⟩ : ∃ x, x = K[k] := ⟨_, rfl⟩
      obtain ⟨_, _, e0, hcell⟩ := SK.out.below hbw
      simp only [Value.slice.injEq] at e0
      obtain ⟨rfl, _, rfl⟩ := e0
      obtain ⟨bK, rfl, q0⟩ := hcell k hlt
      rw [← ex] at q0
      have hxm : x ∈ l.map (·.1) := by
        rw [← mem_sortedKeys, HEK.out, ex]
        exact List.getElem_mem hlt
      obtain ⟨pr, hpr, hprx⟩ := List.mem_map.1 hxm
      obtain ⟨to, hto⟩ : ∃ to, routep.get l x = some to := by
        cases hg : routep.get l x with
        | none => exact absurd hxm (get_none.1 hg)
        | some to => exact ⟨to, rfl⟩
      have hx8 : x.length ≤ 8 := by rw [← hprx]; exact HKS.out pr hpr
      have hxs : (ByteArray.mk x.toArray).size ≤ maxLen := by
        have : (ByteArray.mk x.toArray).size = x.length := by rw [Lib.size_mk]
        rw [this]; simp only [maxLen]; omega
      have hTr := H.out.below (HB2.out.trans (hbw.mono HB2.out.size))
      have d1 : wr.cell? ⟨g, 1, none⟩ = some (.map (some b)) := cells_at hTr.blk 1
      obtain ⟨y, hy, hI⟩ := look1_tab hTr ⟨x.toArray⟩ hxs (to := to) (by simpa using hto)
      have HY := Lib.hid (hy wr rfl)
      have hrow := get_rows HR.out hto
      have HC := Lib.hid (clone_any hI hrow.1 (by omega))
      have HTO := Lib.hid (And.intro hto (And.intro ex hxs))
      have HROW := Lib.hid hrow
      have HO := Lib.hid hO
      have HBW := Lib.hid hbw
      have HTAB := Lib.hid htab
      have hk31 : k < 32 := by omega
      have HRS := Lib.hid hrs
      clear hcell hxm hpr hprx hto hx8 hxs hTr hy hI hrow hO hbw htab ex hrs
      go_wp2_with (refine wpList_run rfl _ (exec_lookup 55 (.tmp 22) (.tmp 23) false rfl (.map (some b)) (.string ⟨x.toArray⟩) y.v rfl rfl HY.out) ?_)
      refine HC.out.mono ?_
      rintro e w3 ⟨v', rfl, hf⟩
      obtain ⟨p', c', rfl⟩ := hf.ints.shape
      obtain ⟨W1, e1⟩ : ∃ W, w3.alloc (.cells #[.string ⟨x.toArray⟩, .slice p' to.length c'] 25) = W := ⟨_, rfl⟩
      have b31 : Below w3.heap.size w3 W1 := by rw [← e1]; exact (Below.refl _ _).alloc (Nat.le_refl _) _
      have hW : Below wr.heap.size wr W1 := hf.1.trans (b31.mono hf.1.size)
      have hlast : W1.heap[w3.heap.size]? = some (.cells #[.string ⟨x.toArray⟩, .slice p' to.length c'] 25 (0, 0)) := by rw [← e1]; exact heap_alloc_last _ _
      have hOW := HO.out.below hW
      have hbW : Buf W1 25 2 u3 k (rs.flatMap rtCells) := by
        have := hOW.buf
        rwa [HRS.out] at this
      have hrowW : OutRow w2.heap.size W1 ⟨⟨x.toArray⟩, to, .slice p' to.length c'⟩ := by
        have := hf.row (k := ⟨x.toArray⟩) HTO.out.2.2 HROW.out.2 (B := w2.heap.size) HBW.out.size
        exact this.keep fun gq cur hq => b31.block gq (Array.getElem?_eq_some_iff.1 hq).1
      have hnews : ∀ (j : Nat) u, [Value.string ⟨x.toArray⟩, .slice p' to.length c'][j]? = some u → W1.cell? ((⟨w3.heap.size, 0, none⟩ : Addr).add j) = some u := fun j u hu => by
        have hadd : (⟨w3.heap.size, 0, none⟩ : Addr).add j = ⟨w3.heap.size, j, none⟩ := by unfold Addr.add; split <;> simp_all
        rw [hadd, cells_at hlast]
        simpa using hu
      have hone : ∀ u ∈ [Value.string ⟨x.toArray⟩, .slice p' to.length c'], u.oneCell' = true := by
        intro u hu
        simp at hu
        rcases hu with rfl | rfl <;> rfl
      have h63 : k + 1 ≤ maxLen := by simp only [maxLen]; omega
      have hby : (k + 1) * 40 ≤ 140737488355328 := by omega
      have hfin : ∀ gg cap w4, Buf w4 25 2 (.slice (some ⟨gg, 0, none⟩) (k + 1) cap) (k + 1) (rs.flatMap rtCells ++ [.string ⟨x.toArray⟩, .slice p' to.length c']) → W1.grownBy w4 (bufBlock u3) → (bufBlock u3 = some gg ∨ gg = W1.heap.size) →
          Below w2.heap.size w2 w4 ∧ OutAt w2.heap.size w4 (.slice (some ⟨gg, 0, none⟩) (k + 1) cap) (rs ++ [⟨⟨x.toArray⟩, to, .slice p' to.length c'⟩]) := fun gg cap w4 hB hg hat => by
        refine ⟨?_, HO.out.add HBW.out.size hW hrowW HRS.out hB hg hat⟩
        have hb1 := HBW.out.trans (hW.mono HBW.out.size)
        refine ⟨hg.os.trans hb1.os, hg.tape.trans hb1.tape, hg.output.trans hb1.output, by have := hg.size; have := hb1.size; omega, fun j hj => ?_⟩
        refine (hg.block j (by have := hb1.size; omega) fun e => ?_).trans (hb1.block j hj)
        have := HO.out.new j e.symm
        omega
      have HFIN := Lib.hid hfin
      have E1 := Lib.hid e1
      clear hfin hrowW hOW hlast hW b31 e1 hf
      go_wp2_with (rw [E1.out]; refine wpList_append_buf rfl (.tmp 17) (.tmp 27) 22 rfl 25 _ 2 40 Tryd.underlying22 info25f rfl (by omega) u3 k _ rfl hbW ⟨w3.heap.size, 0, none⟩ 1 1 rfl [.string ⟨x.toArray⟩, .slice p' to.length c'] rfl hnews hone (by omega) h63 hby ?_; intro gg cap w4 hB hg hc1 _ hat _; obtain ⟨k0, k1⟩ := HFIN.out gg cap w4 hB hg hat; clear hB hg hat)
      go_roundw
      case rel =>
        refine ⟨k + 1, _, by omega, by go_num, by simp [HRS.out], k0, k1, ?_⟩
        have hkt : k < (listOf l).length := by simp [listOf]; rw [sortedKeys_len, ← HKL.out]; omega
        rw [List.take_succ_eq_append_getElem hkt, ← HTAB.out]
        have e : (listOf l)[k] = (x, to) := by
          simp only [listOf, List.getElem_map, HEK.out, ← HTO.out.2.1, HTO.out.1]
          rfl
        rw [e]
        simp [tabOf]
      case measure => simp [intOf]; omega
    · obtain rfl : k = K.length := by omega
      have hlt' : ¬ (K.length : Int) < K.length := by omega
      have htab2 : tabOf rs = listOf l := by
        rw [htab, List.take_of_length_le]
        simp [listOf]
        rw [sortedKeys_len, HKL.out]
        exact Nat.le_refl _
      have HH := Lib.hid (And.intro hbw (And.intro hO htab2))
      clear hbw hO htab htab2
      go_wp2_with fail
      go_ret
      exact ⟨_, rfl, HB2.out.trans (HH.out.1.mono HB2.out.size), rs, ⟨HH.out.2.1.buf, fun gq hq => Nat.le_trans HB2.out.size (HH.out.2.1.new gq hq), fun r hr => by
        obtain ⟨a1, a2, g', c, cur, a3, a4, a5⟩ := HH.out.2.1.rows r hr
        exact ⟨a1, a2, g', c, cur, a3, Nat.le_trans HB2.out.size a4, a5⟩⟩, HH.out.2.2⟩
end Go.Proofs.YthfncbnokjikfaaDoor.routew
