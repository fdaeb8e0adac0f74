/- Layer 3: the reference's plant while it is made. Conditions: as each theorem says. -/
import Derived.Test.YtpnijopbbbgffaaRefA
namespace Go.Proofs.Ytpnijopbbbgffaa.plantw
open Go.RowKit
open Go.Proofs.Ytpnijopbbbgffaa.plantp
open Go.Proofs.Ytpnijopbbbgffaa.mapfn
open Go.Proofs.Ytpnijopbbbgffaa.buf
/-- The disks' rows so far. -/
def DisksAt (zs : List Int) (hv : List Value) (hb : List Nat) (W : World) : Prop := ∀ i (h : i < hb.length) (h' : i < zs.length), 1 ≤ zs[i] ∧ zs[i] ≤ 65536 ∧ hv[i]? = some (.slice (some ⟨hb[i], 0, none⟩) zs[i].toNat zs[i].toNat) ∧ W.heap[hb[i]]? = some (.cells (List.replicate zs[i].toNat (Value.slice none 0 0)).toArray 22 (0, 0))
/-- The reference's plant while it is made: so many sizes, so many disks. -/
structure RMk (w : World) (g : Nat) (zs : List Int) (vM vH : Value) (hv : List Value) (hb : List Nat) (m k : Nat) (W : World) : Prop where
  blk : RBlk W g vM vH (.slice none 0 0) false false 0 0
  most : Buf W 3 1 vM m ((zs.take m).map (Value.int .i64))
  has : Buf W 75 1 vH k hv
  lv : hv.length = k
  lb : hb.length = k
  lz : k ≤ zs.length
  disks : DisksAt zs hv hb W
  nodup : (g :: ((bufBlock vM).toList ++ ((bufBlock vH).toList ++ hb))).Nodup
  new : ∀ j ∈ g :: ((bufBlock vM).toList ++ ((bufBlock vH).toList ++ hb)), w.heap.size ≤ j
  base : Below w.heap.size w W
theorem RMk.lt {w : World} {g : Nat} {zs : List Int} {vM vH : Value} {hv : List Value} {hb : List Nat} {m k : Nat} {W : World} (h : RMk w g zs vM vH hv hb m k W) : ∀ j ∈ g :: ((bufBlock vM).toList ++ ((bufBlock vH).toList ++ hb)), j < W.heap.size := by
  intro j hj
  simp only [List.mem_cons, List.mem_append, Option.mem_toList] at hj
  rcases hj with rfl | hj | hj | hj
  · exact (Array.getElem?_eq_some_iff.1 h.blk).1
  · exact h.most.lt j hj
  · exact h.has.lt j hj
  · obtain ⟨i, hi, rfl⟩ := List.getElem_of_mem hj
    exact (Array.getElem?_eq_some_iff.1 (h.disks i hi (by have := h.lb; have := h.lz; omega)).2.2.2).1
/-- Behind the append of a size. -/
theorem RMk.addMost {w : World} {g : Nat} {zs : List Int} {vM vH : Value} {hv : List Value} {hb : List Nat} {k : Nat} {W W1 W3 : World} (h : RMk w g zs vM vH hv hb k k W) (hlt : k < zs.length) (h1 : Below W.heap.size W W1) {gg cap : Nat} (hcap : 0 < cap)
    (hB : Buf W3 3 1 (.slice (some ⟨gg, 0, none⟩) (k + 1) cap) (k + 1) ((zs.take k).map (Value.int .i64) ++ [.int .i64 zs[k]])) (hg : W1.grownBy W3 (bufBlock vM)) (hat : bufBlock vM = some gg ∨ gg = W1.heap.size) :
    RMk w g zs (.slice (some ⟨gg, 0, none⟩) (k + 1) cap) vH hv hb (k + 1) k (W3.setCell ⟨g, 0, none⟩ (.slice (some ⟨gg, 0, none⟩) (k + 1) cap)) := by
  have hnd := h.nodup
  have hl := h.lt
  have hbb : bufBlock (.slice (some ⟨gg, 0, none⟩) (k + 1) cap) = some gg := by simp [bufBlock]; omega
  have hsz := h1.size
  -- blocks but M's stay up to W3
  have hst : ∀ j, j < W.heap.size → some j ≠ bufBlock vM → W3.heap[j]? = W.heap[j]? := fun j hj hn => (hg.block j (by omega) hn).trans (h1.block j hj)
  have hgl := hl g (by simp)
  have hgm : some g ≠ bufBlock vM := fun e => by
    have := (List.nodup_cons.1 hnd).1
    simp [← e] at this
  have hgg : gg ≠ g := by
    rcases hat with e | e
    · exact fun e' => hgm (by rw [e, e'])
    · omega
  have hother : ∀ j ∈ (bufBlock vH).toList ++ hb, j < W.heap.size ∧ some j ≠ bufBlock vM ∧ j ≠ g ∧ j ≠ gg := fun j hj => by
    have hjl := hl j (List.mem_cons_of_mem _ (List.mem_append_right _ hj))
    have n1 := List.nodup_cons.1 hnd
    have n2 := List.nodup_append.1 n1.2
    have hjm : some j ≠ bufBlock vM := fun e => by
      have := n2.2.2 j (by simp [← e]) j hj
      exact this rfl
    refine ⟨hjl, hjm, fun e => n1.1 (by rw [← e]; exact List.mem_append_right _ hj), fun e => ?_⟩
    rcases hat with e' | e'
    · exact hjm (by rw [e, e'])
    · omega
  have hW4 : ∀ j, j ≠ g → (W3.setCell ⟨g, 0, none⟩ (.slice (some ⟨gg, 0, none⟩) (k + 1) cap)).heap[j]? = W3.heap[j]? := fun j hj => Below.heap_setCell _ _ _ _ hj
  have hblk3 : W3.heap[g]? = some (.cells #[vM, vH, .slice none 0 0, .bool false, .bool false, .int .i64 0, .int .i64 0] 59 (0, 0)) := (hst g hgl hgm).trans h.blk
  refine ⟨?_, ?_, ?_, h.lv, h.lb, h.lz, ?_, ?_, ?_, ?_⟩
  · unfold RBlk
    rw [heap_set hblk3]
    rfl
  · have e : (zs.take (k + 1)).map (Value.int .i64) = (zs.take k).map (Value.int .i64) ++ [.int .i64 zs[k]] := by rw [List.take_succ_eq_append_getElem hlt, List.map_append]; rfl
    rw [e]
    exact hB.kept fun j hj => hW4 j (by rw [hbb] at hj; injection hj with hj; omega)
  · exact h.has.kept fun j hj => by
      have := hother j (List.mem_append_left _ (by simp [hj]))
      exact (hW4 j this.2.2.1).trans (hst j this.1 this.2.1)
  · intro i hi hi'
    obtain ⟨a1, a2, a3, a4⟩ := h.disks i hi hi'
    have := hother hb[i] (List.mem_append_right _ (List.getElem_mem hi))
    exact ⟨a1, a2, a3, ((hW4 _ this.2.2.1).trans (hst _ this.1 this.2.1)).trans a4⟩
  · rw [hbb]
    have n1 := List.nodup_cons.1 hnd
    have n2 := List.nodup_append.1 n1.2
    refine List.nodup_cons.2 ⟨fun hm => ?_, ?_⟩
    · simp only [Option.toList_some, List.cons_append, List.nil_append, List.mem_cons] at hm
      rcases hm with hm | hm
      · exact hgg hm.symm
      · exact (hother g hm).2.2.1 rfl
    · simp only [Option.toList_some, List.cons_append, List.nil_append]
      exact List.nodup_cons.2 ⟨fun hm => (hother gg hm).2.2.2 rfl, n2.2.1⟩
  · intro j hj
    rw [hbb] at hj
    simp only [Option.toList_some, List.cons_append, List.nil_append, List.mem_cons] at hj
    rcases hj with rfl | rfl | hj
    · exact h.new j (by simp)
    · rcases hat with e | e
      · exact h.new j (by simp [e])
      · have := h.base.size; omega
    · exact h.new j (List.mem_cons_of_mem _ (List.mem_append_right _ hj))
  · have hgn := h.new g (by simp)
    have hb3 : Below w.heap.size w W3 := by
      have hw := h.base
      refine ⟨hg.os.trans (h1.os.trans hw.os), hg.tape.trans (h1.tape.trans hw.tape), hg.output.trans (h1.output.trans hw.output), by have := hg.size; have := hw.size; omega, fun j hj => ?_⟩
      have := hw.size
      refine (hst j (by omega) fun e => ?_).trans (hw.block j hj)
      have := h.new j (by simp [← e])
      omega
    exact hb3.setCell (p := ⟨g, 0, none⟩) hgn _
/-- Behind the append of a disk. -/
theorem RMk.addHas {w : World} {g : Nat} {zs : List Int} {vM vH : Value} {hv : List Value} {hb : List Nat} {k : Nat} {W W1 W3 : World} (h : RMk w g zs vM vH hv hb (k + 1) k W) (hlt : k < zs.length) (hz : 1 ≤ zs[k] ∧ zs[k] ≤ 65536) (h1 : Below W.heap.size W W1) {nb gg cap : Nat} (hcap : 0 < cap) (hnb : W.heap.size ≤ nb)
    (hnc : W1.heap[nb]? = some (.cells (List.replicate zs[k].toNat (Value.slice none 0 0)).toArray 22 (0, 0)))
    (hB : Buf W3 75 1 (.slice (some ⟨gg, 0, none⟩) (k + 1) cap) (k + 1) (hv ++ [.slice (some ⟨nb, 0, none⟩) zs[k].toNat zs[k].toNat])) (hg : W1.grownBy W3 (bufBlock vH)) (hat : bufBlock vH = some gg ∨ gg = W1.heap.size) :
    RMk w g zs vM (.slice (some ⟨gg, 0, none⟩) (k + 1) cap) (hv ++ [.slice (some ⟨nb, 0, none⟩) zs[k].toNat zs[k].toNat]) (hb ++ [nb]) (k + 1) (k + 1) (W3.setCell ⟨g, 1, none⟩ (.slice (some ⟨gg, 0, none⟩) (k + 1) cap)) := by
  have hnd := h.nodup
  have hl := h.lt
  have hbb : bufBlock (.slice (some ⟨gg, 0, none⟩) (k + 1) cap) = some gg := by simp [bufBlock]; omega
  have hsz := h1.size
  have hnl := (Array.getElem?_eq_some_iff.1 hnc).1
  have hst : ∀ j, j < W.heap.size → some j ≠ bufBlock vH → W3.heap[j]? = W.heap[j]? := fun j hj hn => (hg.block j (by omega) hn).trans (h1.block j hj)
  have n1 := List.nodup_cons.1 hnd
  have n2 := List.nodup_append.1 n1.2
  have n3 := List.nodup_append.1 n2.2.1
  have hgl := hl g (by simp)
  have hgm : some g ≠ bufBlock vH := fun e => n1.1 (List.mem_append_right _ (List.mem_append_left _ (by simp [← e])))
  have hgg : gg ≠ g := by
    rcases hat with e | e
    · exact fun e' => hgm (by rw [e, e'])
    · omega
  have hgn : gg ≠ nb := by
    rcases hat with e | e
    · have := hl gg (List.mem_cons_of_mem _ (List.mem_append_right _ (List.mem_append_left _ (by simp [e])))); omega
    · omega
  have hvn : some nb ≠ bufBlock vH := fun e => by
    have := hl nb (List.mem_cons_of_mem _ (List.mem_append_right _ (List.mem_append_left _ (by simp [← e])))); omega
  have hother : ∀ j, j ∈ (bufBlock vM).toList ∨ j ∈ hb → j < W.heap.size ∧ some j ≠ bufBlock vH ∧ j ≠ g ∧ j ≠ gg := fun j hj => by
    have hjl : j < W.heap.size := hl j (List.mem_cons_of_mem _ (by rcases hj with hj | hj; exact List.mem_append_left _ hj; exact List.mem_append_right _ (List.mem_append_right _ hj)))
    have hjm : some j ≠ bufBlock vH := fun e => by
      rcases hj with hj | hj
      · exact n2.2.2 j hj j (List.mem_append_left _ (by simp [← e])) rfl
      · exact n3.2.2 j (by simp [← e]) j hj rfl
    refine ⟨hjl, hjm, fun e => n1.1 (by rw [← e]; rcases hj with hj | hj; exact List.mem_append_left _ hj; exact List.mem_append_right _ (List.mem_append_right _ hj)), fun e => ?_⟩
    rcases hat with e' | e'
    · exact hjm (by rw [e, e'])
    · omega
  have hW4 : ∀ j, j ≠ g → (W3.setCell ⟨g, 1, none⟩ (.slice (some ⟨gg, 0, none⟩) (k + 1) cap)).heap[j]? = W3.heap[j]? := fun j hj => Below.heap_setCell _ _ _ _ hj
  have hblk3 : W3.heap[g]? = some (.cells #[vM, vH, .slice none 0 0, .bool false, .bool false, .int .i64 0, .int .i64 0] 59 (0, 0)) := (hst g hgl hgm).trans h.blk
  have hlb := h.lb
  have hlv := h.lv
  refine ⟨?_, ?_, ?_, by simp [hlv], by simp [hlb], by omega, ?_, ?_, ?_, ?_⟩
  · unfold RBlk
    rw [heap_set hblk3]
    rfl
  · exact h.most.kept fun j hj => by
      have := hother j (.inl (by simp [hj]))
      exact (hW4 j this.2.2.1).trans (hst j this.1 this.2.1)
  · exact hB.kept fun j hj => hW4 j (by rw [hbb] at hj; injection hj with hj; omega)
  · intro i hi hi'
    by_cases hik : i < k
    · have hi2 : i < hb.length := by omega
      obtain ⟨a1, a2, a3, a4⟩ := h.disks i hi2 hi'
      have := hother hb[i] (.inr (List.getElem_mem hi2))
      refine ⟨a1, a2, ?_, ?_⟩
      · rw [List.getElem?_append_left (by omega), List.getElem_append_left hi2]; exact a3
      · rw [List.getElem_append_left hi2]; exact ((hW4 _ this.2.2.1).trans (hst _ this.1 this.2.1)).trans a4
    · have hi3 : i < k + 1 := by simpa [hlb] using hi
      obtain rfl : i = k := by omega
      have e1 : (hb ++ [nb])[i] = nb := by simp [← hlb]
      refine ⟨hz.1, hz.2, ?_, ?_⟩
      · rw [e1, List.getElem?_append_right (by omega)]; simp [hlv]
      · rw [e1, hW4 nb (by have := hgl; omega), hg.block nb hnl hvn]; exact hnc
  · rw [hbb]
    refine List.nodup_cons.2 ⟨fun hm => ?_, ?_⟩
    · simp only [List.mem_append, Option.toList_some, List.mem_cons, List.not_mem_nil, or_false] at hm
      rcases hm with hm | hm | hm | hm
      · exact (hother g (.inl hm)).2.2.1 rfl
      · exact hgg hm.symm
      · exact (hother g (.inr hm)).2.2.1 rfl
      · omega
    · refine List.nodup_append.2 ⟨n2.1, ?_, fun a ha c hc => ?_⟩
      · simp only [Option.toList_some, List.cons_append, List.nil_append]
        refine List.nodup_cons.2 ⟨fun hm => ?_, List.nodup_append.2 ⟨n3.2.1, by simp, fun a ha c hc => ?_⟩⟩
        · rcases List.mem_append.1 hm with hm | hm
          · exact (hother gg (.inr hm)).2.2.2 rfl
          · exact hgn (List.mem_singleton.1 hm)
        · obtain rfl := List.mem_singleton.1 hc
          have := (hother a (.inr ha)).1
          omega
      · simp only [Option.toList_some, List.cons_append, List.nil_append, List.mem_cons, List.mem_append, List.not_mem_nil, or_false] at hc
        rcases hc with rfl | hc | rfl
        · exact (hother a (.inl ha)).2.2.2
        · exact n2.2.2 a ha c (List.mem_append_right _ hc)
        · have := (hother a (.inl ha)).1
          omega
  · intro j hj
    rw [hbb] at hj
    simp only [Option.toList_some, List.mem_cons, List.mem_append, List.not_mem_nil, or_false] at hj
    have hws := h.base.size
    rcases hj with rfl | hj | rfl | hj | rfl
    · exact h.new j (by simp)
    · exact h.new j (List.mem_cons_of_mem _ (List.mem_append_left _ hj))
    · rcases hat with e | e
      · exact h.new j (List.mem_cons_of_mem _ (List.mem_append_right _ (List.mem_append_left _ (by simp [e]))))
      · omega
    · exact h.new j (List.mem_cons_of_mem _ (List.mem_append_right _ (List.mem_append_right _ hj)))
    · omega
  · have hgn' := h.new g (by simp)
    have hb3 : Below w.heap.size w W3 := by
      have hw := h.base
      refine ⟨hg.os.trans (h1.os.trans hw.os), hg.tape.trans (h1.tape.trans hw.tape), hg.output.trans (h1.output.trans hw.output), by have := hg.size; have := hw.size; omega, fun j hj => ?_⟩
      have := hw.size
      refine (hst j (by omega) fun e => ?_).trans (hw.block j hj)
      have := h.new j (List.mem_cons_of_mem _ (List.mem_append_right _ (List.mem_append_left _ (by simp [← e]))))
      omega
    exact hb3.setCell (p := ⟨g, 1, none⟩) hgn' _
end Go.Proofs.Ytpnijopbbbgffaa.plantw
