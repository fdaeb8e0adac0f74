/- Walks of layer 3: New. Conditions: as each theorem says. -/
import Derived.Test.YtpnijopbbbgffaaPlantY
import Derived.Carry
namespace Go.Proofs.Ytpnijopbbbgffaa.plantw
open Go.RowKit
open Go.Proofs.Ytpnijopbbbgffaa.plantp
open Go.Proofs.Ytpnijopbbbgffaa.mapfn
open Go.Proofs.Ytpnijopbbbgffaa.buf
/-- Numbers in a slice. -/
def IntsAt (w : World) (v : Value) (zs : List Int) : Prop :=
  zs.length ≤ maxLen ∧ ((zs = [] ∧ ∃ p c, v = .slice p 0 c) ∨ ∃ b o c, v = .slice (some ⟨b, o, none⟩) zs.length c ∧ b < w.heap.size ∧ ∀ i (h : i < zs.length), w.cell? ⟨b, o + i, none⟩ = some (.int .i64 zs[i]))
theorem IntsAt.shape {w : World} {v : Value} {zs : List Int} (h : IntsAt w v zs) : ∃ p c, v = .slice p zs.length c := by
  obtain ⟨_, ⟨rfl, p, c, rfl⟩ | ⟨b, o, c, rfl, _⟩⟩ := h
  · exact ⟨_, _, rfl⟩
  · exact ⟨_, _, rfl⟩
theorem IntsAt.below {w w' : World} {v : Value} {zs : List Int} (h : IntsAt w v zs) (hb : Below w.heap.size w w') : IntsAt w' v zs := by
  obtain ⟨h0, h1 | ⟨b, o, c, h1, h2, h3⟩⟩ := h
  · exact ⟨h0, .inl h1⟩
  · exact ⟨h0, .inr ⟨b, o, c, h1, by have := hb.size; omega, fun i hi => (hb.cell (p := ⟨b, o + i, none⟩) h2).trans (h3 i hi)⟩⟩
/-- May such a plant be? -/
def mayB (zs : List Int) : Bool := decide (zs.length ≠ 0 ∧ zs.length ≤ 4) && zs.all fun n => decide (1 ≤ n ∧ n ≤ 65536)
def NewAt (zs : List Int) (w : World) (e : Ending) (w' : World) : Prop :=
  Below w.heap.size w w' ∧ ((mayB zs = false ∧ e = .returned (.tuple #[.pointer none, .int .i64 30])) ∨
    (mayB zs = true ∧ ∃ g O, e = .returned (.tuple #[.pointer (some ⟨g, 0, none⟩), .int .i64 0]) ∧ IsP w' g (PS.new (zs.map Int.toNat)) O ∧ ∀ k ∈ O, w.heap.size ≤ k))
theorem info67f : (Try.prog.info? 67).map (fun i => (i.zero, i.size, i.bytes)) = some (some (.agg #[.int .i64 0, .map none]), 2, 16) := by kernel_rfl
/-- A plant in the making: so many disks, each with an empty map. -/
def Making (w : World) (g : Nat) (zs : List Int) (v0 : Value) (ms : List Nat) : Prop :=
  Blk w g v0 (.slice none 0 0) false (-1) 0 ∧ ms.length = zs.length ∧ Buf w 67 2 v0 zs.length ((zs.zip ms).flatMap fun x => [.int .i64 x.1, .map (some x.2)]) ∧
    (∀ m ∈ ms, MapFn secE Try.prog 3 w m 0 (fun _ => none)) ∧ (g :: ((bufBlock v0).toList ++ ms)).Nodup
theorem pair_at : ∀ (l : List (Int × Nat)) i (h : i < l.length), (l.flatMap fun x => [Value.int .i64 x.1, .map (some x.2)])[i * 2]? = some (.int .i64 l[i].1) ∧ (l.flatMap fun x => [Value.int .i64 x.1, .map (some x.2)])[i * 2 + 1]? = some (.map (some l[i].2))
  | [], i, h => by simp at h
  | x :: l, 0, _ => by simp
  | x :: l, i + 1, h => by
    have := pair_at l i (by simpa using h)
    rw [List.flatMap_cons, show (i + 1) * 2 = i * 2 + 2 by omega, show i * 2 + 2 + 1 = i * 2 + 1 + 2 by omega, List.getElem?_append_right (by simp), List.getElem?_append_right (by simp)]
    simpa using this
theorem made_is {w : World} {g : Nat} {zs : List Int} {v0 : Value} {ms : List Nat} {B : Nat} (hm : mayB zs = true) (h : Making w g zs v0 ms) (hB : ∀ k ∈ (bufBlock v0).toList ++ ms, B ≤ k) : ∃ O, IsP w g (PS.new (zs.map Int.toNat)) O ∧ ∀ k ∈ O, k = g ∨ B ≤ k := by
  obtain ⟨h1, h2, ⟨h3, ⟨h4, _⟩ | ⟨dk, cap, cur, rfl, h4, h5, h6, h7, h8, h9⟩⟩, h10, h11⟩ := h
  · simp [mayB, h4] at hm
  · simp only [mayB, Bool.and_eq_true, List.all_eq_true, decide_eq_true_eq] at hm
    have eb : bufBlock (.slice (some ⟨dk, 0, none⟩) zs.length cap) = some dk := by simp [bufBlock]; omega
    rw [eb] at h11 hB
    refine ⟨g :: dk :: ((bufBlock (.slice none 0 0)).toList ++ ms), ⟨⟨by simp [PS.new]; omega, ?_, fun d k => zero_len, by simp [PS.new], by simp [PS.new], by simp [PS.new]⟩, dk, cap, cur, .slice none 0 0, ms, by simpa [PS.new] using h1, by simpa [PS.new] using h5, h7, h4, h8, by simp [PS.new, h2], ?_, ⟨rfl, .inl ⟨rfl, .inl rfl⟩⟩, rfl, by simpa [bufBlock] using h11⟩, ?_⟩
    · intro n hn
      simp [PS.new] at hn
      obtain ⟨z, hz, rfl⟩ := hn
      have := hm.2 z hz
      omega
    · intro i hi hi'
      simp only [PS.new, List.length_map] at hi
      have hz := hm.2 zs[i] (by simp)
      have hp := pair_at (zs.zip ms) i (by simp; omega)
      rw [List.getElem_zip] at hp
      refine ⟨?_, ?_, 0, _, h10 ms[i] (by simp), by simp [PS.new], fun k hk => rfl⟩
      · rw [take_get h9 (by omega), hp.1]
        simp [PS.new]
        omega
      · rw [take_get h9 (by omega), hp.2]
    · intro k hk
      simp [bufBlock] at hk
      rcases hk with rfl | rfl | hk
      · exact .inl rfl
      · exact .inr (hB k (by simp))
      · exact .inr (hB k (by simp [hk]))
set_option maxHeartbeats 2000000 in
set_option maxRecDepth 100000 in
theorem new_in {w : World} {b o c : Nat} {zs : List Int} (hz0 : zs.length ≠ 0) (hz4 : zs.length ≤ 4) (hb : b < w.heap.size) (hc : ∀ i (h : i < zs.length), w.cell? ⟨b, o + i, none⟩ = some (.int .i64 zs[i])) :
    Calls Try.prog 11 #[.slice (some ⟨b, o, none⟩) zs.length c] w (NewAt zs w) := by
  have h1 : ¬ (zs.length : Int) = 0 := by omega
  have h2 : ((zs.length : Int) == 0) = false := by simpa using h1
  have h3 : decide ((4 : Int) < (zs.length : Int)) = false := by simp; omega
  have h4 : ¬ (4 : Int) < (zs.length : Int) := by omega
  have HC := Lib.hid hc
  clear hc hz0
  go_enter Try.func11, Try.ntmps11
  go_wp2_with fail
  go_loopw [19] (fun k wr => ∃ (j : Nat) (v0 : Value) (ms : List Nat), j ≤ zs.length ∧ k = .int .i64 j ∧ (zs.take j).all (fun n => decide (1 ≤ n ∧ n ≤ 65536)) = true ∧ Below w.heap.size w wr ∧ Making wr w.heap.size (zs.take j) v0 ms ∧ (∀ k ∈ (bufBlock v0).toList ++ ms, w.heap.size ≤ k)) (fun k _ => zs.length - (intOf k).toNat)
  case atStart =>
    refine ⟨0, .slice none 0 0, [], by omega, rfl, by simp, (Below.refl _ _).alloc (Nat.le_refl _) _, ⟨heap_alloc_last _ _, rfl, ⟨rfl, .inl ⟨rfl, .inl rfl⟩⟩, by simp, by simp [bufBlock]⟩, by simp [bufBlock]⟩
  case round =>
    obtain ⟨j, v0, ms, hj, rfl, hall, hbel, hmk, hge⟩ := hrel
    have HALL := Lib.hid hall
    have HMK := Lib.hid hmk
    have HGE := Lib.hid hge
    clear hall hmk hge
    by_cases hlt : j < zs.length
    · have hcj := (hbel.cell (p := ⟨b, o + j, none⟩) hb).trans (HC.out j hlt)
      have HT := Lib.hid (List.take_succ_eq_append_getElem hlt)
      generalize hzj : zs[j] = z at hcj HT
      have HZJ := Lib.hid hzj
      clear hzj
      obtain ⟨⟨c0, c1, c2, c3, c4⟩, _⟩ := HMK.out.1.cells
      have hgl := HMK.out.1.lt
      by_cases hz1 : z < 1
      · have hd1 : decide (z < 1) = true := by simpa using hz1
        go_wp2_with fail
        go_ret2
        refine ⟨hbel, .inl ⟨?_, rfl⟩⟩
        simp only [mayB, Bool.and_eq_false_iff]
        right
        rw [List.all_eq_false]
        exact ⟨zs[j], by simp, by rw [HZJ.out]; simp; omega⟩
      · have hd1 : decide (z < 1) = false := by simpa using hz1
        by_cases hz2 : 65536 < z
        · have hd2 : decide (65536 < z) = true := by simpa using hz2
          go_wp2_with fail
          go_ret2
          refine ⟨hbel, .inl ⟨?_, rfl⟩⟩
          simp only [mayB, Bool.and_eq_false_iff]
          right
          rw [List.all_eq_false]
          exact ⟨zs[j], by simp, by rw [HZJ.out]; simp; omega⟩
        · have hd2 : decide (65536 < z) = false := by simpa using hz2
          have hmm := @run_makeMap Try.prog
          have HBEL := Lib.hid hbel
          have e0 : (wr.alloc (.map #[] 0)).cell? ⟨w.heap.size, 0, none⟩ = some v0 := (World.cell?_of_block (a := ⟨w.heap.size, 0, none⟩) (Below.heap_alloc wr _ _ hgl)).trans c0
          have hlj : (zs.take j).length = j := by rw [List.length_take]; omega
          have hbuf := HMK.out.2.2.1
          rw [hlj] at hbuf
          have hW : ∀ k, k < wr.heap.size → ((wr.alloc (.map #[] 0)).alloc (.cells #[.int .i64 z, .map (some wr.heap.size)] 67)).heap[k]? = wr.heap[k]? := fun k hk => (Below.heap_alloc _ _ _ (by simp; omega)).trans (Below.heap_alloc _ _ _ hk)
          have hbW : Buf ((wr.alloc (.map #[] 0)).alloc (.cells #[.int .i64 z, .map (some wr.heap.size)] 67)) 67 2 v0 j (((zs.take j).zip ms).flatMap fun x => [.int .i64 x.1, .map (some x.2)]) := hbuf.kept fun k hk => hW k (hbuf.lt k hk)
          have hnews : ∀ (i : Nat) (u : Value), [Value.int .i64 z, .map (some wr.heap.size)][i]? = some u → ((wr.alloc (.map #[] 0)).alloc (.cells #[.int .i64 z, .map (some wr.heap.size)] 67)).cell? ((⟨wr.heap.size + 1, 0, none⟩ : Addr).add i) = some u := by
            have := World.news_of_block (heap_alloc_last (wr.alloc (.map #[] 0)) (.cells #[.int .i64 z, .map (some wr.heap.size)] 67))
            simpa using this
          have hone : ∀ u ∈ [Value.int .i64 z, .map (some wr.heap.size)], u.oneCell' = true := by simp [Value.oneCell']
          have hnd := HMK.out.2.2.2.2
          simp only [List.nodup_cons, List.mem_append, not_or] at hnd
          have hvg : bufBlock v0 ≠ some w.heap.size := fun e => hnd.1.1 (by simp [e])
          have fin : ∀ gg cap w3, Buf w3 67 2 (.slice (some ⟨gg, 0, none⟩) (j + 1) cap) (j + 1) ((((zs.take j).zip ms).flatMap fun x => [.int .i64 x.1, .map (some x.2)]) ++ [.int .i64 z, .map (some wr.heap.size)]) →
              ((wr.alloc (.map #[] 0)).alloc (.cells #[.int .i64 z, .map (some wr.heap.size)] 67)).grownBy w3 (bufBlock v0) → j + 1 ≤ cap → (bufBlock v0 = some gg ∨ gg = ((wr.alloc (.map #[] 0)).alloc (.cells #[.int .i64 z, .map (some wr.heap.size)] 67)).heap.size) →
              w3.cell? ⟨w.heap.size, 0, none⟩ = some v0 ∧ w3.frozen? ⟨w.heap.size, 0, none⟩ = false ∧ Hid (Below w.heap.size w (w3.setCell ⟨w.heap.size, 0, none⟩ (.slice (some ⟨gg, 0, none⟩) (j + 1) cap)) ∧ Making (w3.setCell ⟨w.heap.size, 0, none⟩ (.slice (some ⟨gg, 0, none⟩) (j + 1) cap)) w.heap.size (zs.take (j + 1)) (.slice (some ⟨gg, 0, none⟩) (j + 1) cap) (ms ++ [wr.heap.size]) ∧ (∀ k ∈ (bufBlock (.slice (some ⟨gg, 0, none⟩) (j + 1) cap)).toList ++ (ms ++ [wr.heap.size]), w.heap.size ≤ k)) := by
            intro gg cap w3 q1 q2 q3 q4
            have hbv : ∀ k, bufBlock v0 = some k → k < wr.heap.size := fun k hk => hbuf.lt k hk
            have bl : ∀ k, k < wr.heap.size → bufBlock v0 ≠ some k → w3.heap[k]? = wr.heap[k]? := fun k hk hn => (q2.block k (by simp; omega) (fun e => hn e.symm)).trans (hW k hk)
            have bg := bl _ hgl hvg
            have bm : w3.heap[wr.heap.size]? = some (.map #[] 0) := by
              rw [q2.block wr.heap.size (by simp; omega) (fun e => by have := hbv _ e.symm; omega), Below.heap_alloc _ _ _ (by simp)]
              exact heap_alloc_last _ _
            have eb : bufBlock (.slice (some ⟨gg, 0, none⟩) (j + 1) cap) = some gg := by simp [bufBlock]; omega
            have hgg : gg ≠ w.heap.size := by
              rcases q4 with h | h
              · exact fun e => hvg (by rw [h, e])
              · simp at h; omega
            have hml : ∀ m ∈ ms, m < wr.heap.size := fun m hm => (HMK.out.2.2.2.1 m hm).lt
            have hmn : ∀ m ∈ ms, bufBlock v0 ≠ some m := fun m hm e => (List.nodup_append.1 hnd.2).2.2 m (by simp [e]) m hm rfl
            have hggm : ∀ m ∈ ms ++ [wr.heap.size], m ≠ gg := by
              intro m hm e
              subst e
              rcases q4 with h | h
              · rcases List.mem_append.1 hm with hm | hm
                · exact hmn _ hm h
                · have := hbv _ h; simp at hm; omega
              · simp at h
                rcases List.mem_append.1 hm with hm | hm
                · have := hml _ hm; omega
                · simp at hm; omega
            refine ⟨(World.cell?_of_block (a := ⟨w.heap.size, 0, none⟩) bg).trans c0, (World.frozen?_of_block (a := ⟨w.heap.size, 0, none⟩) bg).trans HMK.out.1.cells.2.1, ?_, ⟨(HMK.out.1.kept bg).disks _, ?_, ?_, ?_, ?_⟩, ?_⟩
            · refine Below.setCell (p := ⟨w.heap.size, 0, none⟩) ?_ (Nat.le_refl _) _
              refine ((((Below.refl _ _).trans hbel).alloc hbel.size _).alloc (by simp; have := hbel.size; omega) _).grown q2 (by simp; have := hbel.size; omega) fun k hk => ?_
              exact HGE.out k (by simp [hk])
            · rw [HT.out]
              simp [HMK.out.2.1]
            · have e1 : (zs.take (j + 1)).length = j + 1 := by rw [List.length_take]; omega
              have e2 : ((zs.take (j + 1)).zip (ms ++ [wr.heap.size])) = (zs.take j).zip ms ++ [(z, wr.heap.size)] := by
                rw [HT.out, List.zip_append HMK.out.2.1.symm]
                rfl
              rw [e1, e2, List.flatMap_append]
              refine q1.kept fun k hk => Below.heap_setCell _ _ _ _ ?_
              rw [eb] at hk
              simp at hk
              simp
              omega
            · intro m hm
              rcases List.mem_append.1 hm with hm | hm
              · have hml' := hml m hm
                refine (HMK.out.2.2.2.1 m hm).block ((Below.heap_setCell _ _ _ _ ?_).trans (bl m hml' (hmn m hm)))
                intro e
                exact hnd.1.2 (by rw [← show m = w.heap.size from e]; exact hm)
              · simp at hm
                subst hm
                have hM0 := MapFn.made secE Try.prog 3 wr
                refine hM0.block ((Below.heap_setCell _ _ _ _ (by simp; omega)).trans (bm.trans (heap_alloc_last _ _).symm))
            · rw [eb]
              simp only [Option.toList_some, List.cons_append, List.nil_append, List.nodup_cons, List.mem_cons, not_or]
              refine ⟨⟨fun e => hgg e.symm, fun hm => ?_⟩, fun hm => hggm gg hm rfl, ?_⟩
              · rcases List.mem_append.1 hm with hm | hm
                · exact hnd.1.2 hm
                · simp at hm; omega
              · refine List.nodup_append.2 ⟨(List.nodup_append.1 hnd.2).2.1, by simp, fun a ha b hb e => ?_⟩
                simp at hb
                have := hml a ha
                omega
            · intro k hk
              rw [eb] at hk
              simp only [Option.toList_some, List.cons_append, List.nil_append, List.mem_cons] at hk
              have hws := hbel.size
              rcases hk with rfl | hk
              · rcases q4 with h | h
                · exact HGE.out k (by simp [h])
                · simp at h; omega
              · rcases List.mem_append.1 hk with hk | hk
                · exact HGE.out k (by simp [hk])
                · simp at hk; omega
          have HFIN := Lib.hid fin
          have hj3 : j + 1 ≤ maxLen := by simp only [maxLen]; omega
          have hj4 : (j + 1) * 16 ≤ 140737488355328 := by omega
          clear fin hW hbuf hlj hnd
          go_wp2_with (refine wpList_append_buf rfl (.tmp 33) (.tmp 37) 61 rfl 67 _ 2 16 Try.underlying61 info67f rfl (by omega) v0 j _ rfl hbW ⟨wr.heap.size + 1, 0, none⟩ 1 1 rfl [.int .i64 z, .map (some wr.heap.size)] rfl hnews hone (by omega) hj3 hj4 ?_; intro gg cap w3 hB3 hg3 hc1 _ hat _; obtain ⟨k0, k1, HX⟩ := HFIN.out gg cap w3 hB3 hg3 hc1 hat)
          go_roundw
          case rel =>
            refine ⟨j + 1, _, ms ++ [wr.heap.size], by omega, by go_num, ?_, HX.out.1, HX.out.2.1, HX.out.2.2⟩
            rw [HT.out, List.all_append, HALL.out]
            simp
            omega
          case measure => simp [intOf]; omega
    · obtain rfl : j = zs.length := by omega
      go_wp2_with fail
      go_ret2
      have hall := HALL.out
      have hmk := HMK.out
      have hge := HGE.out
      rw [List.take_length] at hall hmk
      have hmay : mayB zs = true := by
        simp only [mayB, Bool.and_eq_true]
        exact ⟨decide_eq_true ⟨by omega, hz4⟩, hall⟩
      obtain ⟨O, h1, h2⟩ := made_is hmay hmk (fun k hk => hge k hk)
      exact ⟨hbel, .inr ⟨hmay, w.heap.size, O, rfl, h1, fun k hk => by rcases h2 k hk with e | e; omega; exact e⟩⟩
theorem new_any {w : World} {v : Value} {zs : List Int} (h : IntsAt w v zs) :
    Calls Try.prog 11 #[v] w (NewAt zs w) := by
  by_cases h0 : zs.length = 0
  · obtain ⟨p, c, rfl⟩ := h.shape
    have hm : mayB zs = false := by simp [mayB, h0]
    rw [h0]
    have HM := Lib.hid hm
    clear hm h0 h
    go_enter Try.func11, Try.ntmps11
    go_wp2_with fail
    go_ret2
    exact ⟨Below.refl _ _, .inl ⟨HM.out, rfl⟩⟩
  · by_cases h4 : zs.length ≤ 4
    · obtain ⟨_, ⟨rfl, _⟩ | ⟨b, o, c, rfl, hb, hc⟩⟩ := h
      · simp at h0
      · exact new_in h0 h4 hb hc
    · obtain ⟨p, c, rfl⟩ := h.shape
      have hm : mayB zs = false := by simp [mayB]; omega
      have HM := Lib.hid hm
      have h2 : ((zs.length : Int) == 0) = false := by simp; intro e; simp [e] at h4
      have h3 : decide ((4 : Int) < (zs.length : Int)) = true := by simp; omega
      have h5 : (4 : Int) < (zs.length : Int) := by omega
      clear hm h0 h h4
      go_enter Try.func11, Try.ntmps11
      go_wp2_with fail
      go_ret2
      exact ⟨Below.refl _ _, .inl ⟨HM.out, rfl⟩⟩
end Go.Proofs.Ytpnijopbbbgffaa.plantw
