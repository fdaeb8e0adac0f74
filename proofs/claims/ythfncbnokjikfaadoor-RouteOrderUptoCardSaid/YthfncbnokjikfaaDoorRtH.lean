/- Layer 11: a prefix that is added changes the answer for none but those cards that begin with it: the law's walk. Conditions: as the theorem says. -/
import Derived.Test.YthfncbnokjikfaaDoorRtG
namespace Go.Proofs.YthfncbnokjikfaaDoor.routew
open Go.RowKit
open Go.Proofs.YthfncbnokjikfaaDoor.routep
open Go.Proofs.YthfncbnokjikfaaDoor.mapfn
open Go.Proofs.YthfncbnokjikfaaDoor.buf
theorem find_uni {w : World} {g b : Nat} {mem : Int} {l : Tab} (h : TabAt w g b mem l) (hr : Rows l) (s : ByteArray) (hs : s.size ≤ maxLen) :
    Calls Tryd.prog 9 #[.pointer (some ⟨g, 0, none⟩), .string s] w fun e w' => ∃ v, e = .returned (.tuple #[v, .bool (find l s.data.toList).isSome]) ∧ IntsAt w' v ((find l s.data.toList).getD []) ∧ Below w.heap.size w w' := by
  refine (find_any h hr s hs).mono ?_
  rintro e w' (⟨h, rfl, hb⟩ | ⟨to, v, h, rfl, hf⟩)
  · rw [h]
    exact ⟨_, rfl, ⟨by decide, .inl ⟨rfl, _, _, rfl⟩⟩, hb⟩
  · rw [h]
    exact ⟨v, rfl, hf.ints, hf.1⟩
theorem rows_of {w : World} {A : Option Addr} {rs : List RtV} (h : RoutesIn w A rs) {mem : Int} (hok : okT mem (tabOf rs)) : Rows (tabOf rs) := by
  intro p hp
  obtain ⟨i, hi, rfl⟩ := List.getElem_of_mem hp
  have hi' : i < rs.length := by simpa [tabOf] using hi
  obtain ⟨_, _, _, _, h1, _⟩ := h i hi'
  have h2 := (hok.1 _ hp).2
  have e : (tabOf rs)[i] = (rs[i].k.data.toList, rs[i].to) := by simp [tabOf]
  rw [e] at h2 ⊢
  exact ⟨fun e0 => by simp [mayRow, show rs[i].to = [] from e0] at h2, h1.2.1⟩
theorem okT_nil (mem : Int) : okT mem [] := ⟨fun p h => (by cases h), by simp, by simp⟩
theorem okT_add {mem : Int} {l : Tab} {k : Key} {to : List Int} (h : okT mem l) (he : addE mem l k to = 0) : okT mem (add l k to) := by
  have := (newR_ok mem [(k, to)] l h).1.1 (by rw [newR, if_pos he, newR])
  exact this
theorem rows_add {mem : Int} {l : Tab} {k : Key} {to : List Int} (h : Rows l) (hto : to.length ≤ 1048576) : Rows (addT mem l k to) := by
  unfold addT
  split
  · rename_i he
    intro p hp
    rcases List.mem_append.1 hp with hp | hp
    · exact h p hp
    · obtain rfl : p = (k, to) := by simpa using hp
      refine ⟨fun e => ?_, hto⟩
      have := (addE_zero.1 he).2.1
      simp [mayRow, show to = [] from e] at this
  · exact h
theorem rows_drop {l : Tab} {k : Key} (h : Rows l) : Rows (drop l k) := fun p hp => h p (List.mem_filter.1 hp).1
set_option maxRecDepth 100000 in
set_option maxHeartbeats 2000000 in
theorem longer_walk (w : World) {A : Option Addr} {rs : List RtV} (c : Nat) (h : RoutesIn w A rs) (hn : rs.length ≤ 1048576) {r : RtV} (hr : r.Ok w) (pan : ByteArray) (hp : pan.size ≤ maxLen) :
    Calls Tryd.prog 3 #[.slice A rs.length c, .agg #[.string r.k, r.v], .string pan] w fun e w' => e = .returned (.bool true) ∧ Below w.heap.size w w' := by
  obtain ⟨W0, e0⟩ : ∃ W, w.alloc (.cells #[.string r.k, r.v] 25) = W := ⟨_, rfl⟩
  obtain ⟨B0, eB⟩ : ∃ B, w.heap.size = B := ⟨_, rfl⟩
  have b0 : Below w.heap.size w W0 := by rw [← e0]; exact (Below.refl _ _).alloc (Nat.le_refl _) _
  have k0 : W0.heap[B0]? = some (.cells #[.string r.k, r.v] 25 (0, 0)) := by rw [← e0, ← eB]; exact heap_alloc_last _ _
  have K0 := Lib.hid k0
  have H0 := Lib.hid (h.below b0)
  have R0 := Lib.hid (show r.Ok W0 from ⟨hr.1, hr.2.1, hr.2.2.below b0⟩)
  have E0 := Lib.hid e0
  have BB0 := Lib.hid b0
  have HS := Lib.hid (shown_any W0)
  clear k0 b0 h hr e0
  go_enter Tryd.func3, Tryd.ntmps3
  go_wp2_with fail
  rw [E0.out]
  refine HS.out.mono ?_
  rintro e w1 ⟨rfl, b1⟩
  have HN := Lib.hid (new_in (H0.out.below b1) hn c (mem := 6) (by omega))
  have HR1 := Lib.hid (H0.out.below b1)
  have R1 := Lib.hid (show r.Ok w1 from ⟨R0.out.1, R0.out.2.1, R0.out.2.2.below b1⟩)
  have BB1 := Lib.hid (BB0.out.trans (b1.mono BB0.out.size))
  have k1 := Lib.hid ((b1.block B0 (Array.getElem?_eq_some_iff.1 K0.out).1).trans K0.out)
  clear HS E0 K0 H0 R0 b1 BB0 eB
  go_wp2_with fail
  refine HN.out.mono ?_
  rintro e w2 ⟨b2, ⟨hne, rfl⟩ | ⟨hz, g, b, rfl, hT, hg, hb⟩⟩
  · obtain ⟨ee, hee⟩ : ∃ ee, (newR 6 [] (tabOf rs)).2 = ee := ⟨_, rfl⟩
    rw [hee] at hne
    rw [hee]
    have BB2 := Lib.hid (BB1.out.trans (b2.mono BB1.out.size))
    clear HN BB1 HR1 R1 b2 hee
    go_wp2_with fail
    go_ret
    exact ⟨rfl, BB2.out⟩
  have hok : okT 6 (tabOf rs) := by
    have := (newR_ok 6 (tabOf rs) [] (okT_nil 6)).1.1 hz
    simpa using this
  have OK := Lib.hid hok
  have RW := Lib.hid (rows_of HR1.out hok)
  obtain ⟨tab, etab⟩ : ∃ t, tabOf rs = t := ⟨_, rfl⟩
  rw [etab] at OK RW hT
  have T2 := Lib.hid hT
  have R2 := Lib.hid (show r.Ok w2 from ⟨R1.out.1, R1.out.2.1, R1.out.2.2.below b2⟩)
  have BB2 := Lib.hid (BB1.out.trans (b2.mono BB1.out.size))
  have k2 := Lib.hid ((b2.block B0 (Array.getElem?_eq_some_iff.1 k1.out).1).trans k1.out)
  have HGB := Lib.hid (show w.heap.size ≤ b by have := BB1.out.size; omega)
  have F2 := Lib.hid (find_uni hT RW.out pan hp)
  clear hz hT hg hb b2 HN BB1 HR1 R1 k1 etab hok
  go_wp2_with fail
  refine F2.out.mono ?_
  rintro e w3 ⟨va, rfl, ia, b3⟩
  obtain ⟨fa, efa⟩ : ∃ f, find tab pan.data.toList = f := ⟨_, rfl⟩
  rw [efa] at ia
  rw [efa]
  have T3 := Lib.hid (T2.out.below b3)
  have R3 := Lib.hid (show r.Ok w3 from ⟨R2.out.1, R2.out.2.1, R2.out.2.2.below b3⟩)
  have BB3 := Lib.hid (BB2.out.trans (b3.mono BB2.out.size))
  have k3 := (b3.block B0 (Array.getElem?_eq_some_iff.1 k2.out).1).trans k2.out
  have IA3 := Lib.hid ia
  have EFA := Lib.hid efa
  have c0 : w3.cell? ⟨B0, 0, none⟩ = some (.string r.k) := cells_at k3 0
  have c1 : w3.cell? ⟨B0, 1, none⟩ = some r.v := cells_at k3 1
  have F3 := Lib.hid (add_any T3.out OK.out.2.2 r.k R3.out.1 R3.out.2.2 R3.out.2.1)
  clear b3 k3 T2 R2 BB2 F2 ia efa k2
  go_wp2_with fail
  refine F3.out.mono ?_
  rintro e w4 ⟨rfl, T4, t4⟩
  have s4 : Stp b _ w4 := ⟨t4, T3.out.nocell⟩
  have IA4 := Lib.hid (s4.ints IA3.out)
  have BB4 := Lib.hid (s4.base BB3.out HGB.out)
  have d0 : w4.cell? ⟨B0, 0, none⟩ = some (.string r.k) := s4.cell c0
  obtain ⟨ee, eee⟩ : ∃ ee, addE 6 tab r.k.data.toList r.to = ee := ⟨_, rfl⟩
  obtain ⟨tab2, et2⟩ : ∃ t, addT 6 tab r.k.data.toList r.to = t := ⟨_, rfl⟩
  rw [et2] at T4
  rw [eee]
  have RW4 := Lib.hid (show Rows tab2 by rw [← et2]; exact rows_add RW.out R3.out.2.1)
  have TT4 := Lib.hid T4
  have KS := Lib.hid R3.out.1
  have F4 := Lib.hid (find_uni T4 RW4.out pan hp)
  have EEE := Lib.hid eee
  have ET2 := Lib.hid et2
  clear s4 t4 T4 F3 IA3 BB3 T3 c0 c1 R3 eee et2 RW
  go_wp2_with fail
  refine F4.out.mono ?_
  rintro e w5 ⟨vb, rfl, ib, b5⟩
  obtain ⟨fb, efb⟩ : ∃ f, find tab2 pan.data.toList = f := ⟨_, rfl⟩
  rw [efb] at ib
  rw [efb]
  have T5 := Lib.hid (TT4.out.below b5)
  have BB5 := Lib.hid (BB4.out.trans (b5.mono BB4.out.size))
  have IA5 := Lib.hid (IA4.out.below b5)
  have IB5 := Lib.hid ib
  have EFB := Lib.hid efb
  have c0 : w5.cell? ⟨B0, 0, none⟩ = some (.string r.k) := b5.keptCell d0
  clear d0 ib efb b5 TT4 BB4 IA4 F4
  obtain ⟨n, en⟩ : ∃ n, r.k.size = n := ⟨_, rfl⟩
  obtain ⟨K, eK⟩ : ∃ K, r.k = K := ⟨_, rfl⟩
  rw [eK] at c0 en
  have hK := Lib.hid (And.intro en eK)
  clear en eK
  by_cases hle : (K.size : Int) ≤ pan.size
  · go_wp2_with fail
    go_quiet (fail)
    go_wp2_with fail
    have hsl : ((pan.extract 0 K.size).toList == K.toList) = decide (pan.data.toList.take r.k.data.toList.length = r.k.data.toList) := by
      rw [Lib.toList_data, Lib.toList_data, extract_key, hK.out.2, show K.data.toList.length = K.size from (Lib.size_eq K).symm]
      rw [Bool.eq_iff_iff, beq_iff_eq, decide_eq_true_iff]
    by_cases hb : pan.data.toList.take r.k.data.toList.length = r.k.data.toList
    · rw [hsl, decide_eq_true hb]
      have HBG := Lib.hid (show r.k.data.toList.length ≤ pan.data.toList.length ∧ pan.data.toList.take r.k.data.toList.length = r.k.data.toList from ⟨by rw [← Lib.size_eq, ← Lib.size_eq, hK.out.2]; omega, hb⟩)
      clear hsl hb
      have FI := Lib.hid (ints_any (IA5.out.below (drewN_base w5 nq)) (IB5.out.below (drewN_base w5 nq)))
      refine FI.out.mono ?_
      rintro e w6 ⟨rfl, b6⟩
      by_cases hee : ee = 0
      · have hz : addE 6 tab r.k.data.toList r.to = 0 := EEE.out.trans hee
        have hadd : tab2 = add tab r.k.data.toList r.to := by rw [← ET2.out]; unfold addT; rw [if_pos hz]
        have hg0 := (addE_zero.1 hz).2.2.1
        have hok2 : okT 6 tab2 := by rw [hadd]; exact okT_add OK.out hz
        have HD := Lib.hid (drop_any (T5.out.below ((drewN_base _ nq).trans (b6.mono (Nat.le_refl _)))) hok2.2.1 r.k KS.out)
        have hgs : (routep.get tab2 r.k.data.toList).isSome = true := by rw [hadd, get_add _ _ _ _ hg0, if_pos rfl]; rfl
        have hdr : find (drop tab2 r.k.data.toList) pan.data.toList = fa := by rw [hadd, find_drop_add hg0]; exact EFA.out
        rw [hgs, if_pos rfl] at HD
        have hsome : fb.isSome = true := by
          rw [← EFB.out, hadd]
          have hk := (addE_zero.1 hz).1
          simp only [mayKey, Bool.and_eq_true, decide_eq_true_eq] at hk
          exact find_add_some hg0 hk.1 HBG.out
        rw [hsome]
        obtain ⟨okv, eok⟩ : ∃ x, decide (fa.getD [] = fb.getD []) = x := ⟨_, rfl⟩
        rw [eok]
        have HDR := Lib.hid hdr
        have T6 := Lib.hid (T5.out.below ((drewN_base _ nq).trans (b6.mono (Nat.le_refl _))))
        have BB6 := Lib.hid (BB5.out.trans (((drewN_base w5 nq).trans (b6.mono (Nat.le_refl _))).mono BB5.out.size))
        have IA6 := Lib.hid (IA5.out.below ((drewN_base _ nq).trans (b6.mono (Nat.le_refl _))))
        have e0 : w6.cell? ⟨B0, 0, none⟩ = some (.string r.k) := by rw [hK.out.2]; exact b6.keptCell (show (w5.drewN nq).cell? ⟨B0, 0, none⟩ = _ from c0)
        clear hz hadd hg0 hok2 hgs hdr b6 c0 T5 BB5 IA5 IB5 FI EEE OK
        clear hsome eok
        subst hee
        go_wp2_with fail
        refine HD.out.mono ?_
        rintro e w7 ⟨rfl, T7, t7⟩
        have s7 : Stp b _ w7 := ⟨t7, T6.out.nocell⟩
        have IA7 := Lib.hid (s7.ints IA6.out)
        have BB7 := Lib.hid (s7.base BB6.out HGB.out)
        have F7 := Lib.hid (find_uni T7 (rows_drop RW4.out) pan hp)
        rw [HDR.out] at F7
        clear s7 t7 T7 T6 BB6 IA6 e0 HD
        go_wp2_with fail
        refine F7.out.mono ?_
        rintro e w8 ⟨vc, rfl, ic, b8⟩
        have FI8 := Lib.hid (ints_any (IA7.out.below b8) ic)
        have BB8 := Lib.hid (BB7.out.trans (b8.mono BB7.out.size))
        rw [decide_eq_true rfl] at FI8
        clear ic b8 IA7 BB7 F7
        go_wp2_with fail
        refine FI8.out.mono ?_
        rintro e w9 ⟨rfl, b9⟩
        have BB9 := Lib.hid (BB8.out.trans (b9.mono BB8.out.size))
        clear b9 BB8 FI8
        go_wp2_with fail
        go_ret
        exact ⟨rfl, BB9.out⟩
      · have ht2 : tab2 = tab := by rw [← ET2.out]; unfold addT; rw [if_neg (by rw [EEE.out]; exact hee)]
        have hfb : fb = fa := by rw [← EFB.out, ht2]; exact EFA.out
        have BB6 := Lib.hid (BB5.out.trans (((drewN_base w5 nq).trans (b6.mono (Nat.le_refl _))).mono BB5.out.size))
        subst hfb
        rw [decide_eq_true rfl]
        have hne : (fb.isSome != fb.isSome) = false := by simp
        clear b6 c0 T5 BB5 IA5 IB5 FI ht2
        go_wp2_with fail
        go_ret
        exact ⟨rfl, BB6.out⟩
    · rw [hsl, decide_eq_false hb]
      have HBG := Lib.hid (show ¬ (r.k.data.toList.length ≤ pan.data.toList.length ∧ pan.data.toList.take r.k.data.toList.length = r.k.data.toList) from fun h => hb h.2)
      clear hsl hb
      have FI := Lib.hid (ints_any (IA5.out.below (drewN_base w5 nq)) (IB5.out.below (drewN_base w5 nq)))
      refine FI.out.mono ?_
      rintro e w6 ⟨rfl, b6⟩
      by_cases hee : ee = 0
      · have hz : addE 6 tab r.k.data.toList r.to = 0 := EEE.out.trans hee
        have hadd : tab2 = add tab r.k.data.toList r.to := by rw [← ET2.out]; unfold addT; rw [if_pos hz]
        have hg0 := (addE_zero.1 hz).2.2.1
        have hok2 : okT 6 tab2 := by rw [hadd]; exact okT_add OK.out hz
        have HD := Lib.hid (drop_any (T5.out.below ((drewN_base _ nq).trans (b6.mono (Nat.le_refl _)))) hok2.2.1 r.k KS.out)
        have hgs : (routep.get tab2 r.k.data.toList).isSome = true := by rw [hadd, get_add _ _ _ _ hg0, if_pos rfl]; rfl
        have hdr : find (drop tab2 r.k.data.toList) pan.data.toList = fa := by rw [hadd, find_drop_add hg0]; exact EFA.out
        rw [hgs, if_pos rfl] at HD
        have hfb : fb = fa := by rw [← EFB.out, hadd, find_add_other hg0 HBG.out]; exact EFA.out
        rw [hfb, decide_eq_true rfl]
        have hne : (fa.isSome != fa.isSome) = false := by simp
        have HDR := Lib.hid hdr
        have T6 := Lib.hid (T5.out.below ((drewN_base _ nq).trans (b6.mono (Nat.le_refl _))))
        have BB6 := Lib.hid (BB5.out.trans (((drewN_base w5 nq).trans (b6.mono (Nat.le_refl _))).mono BB5.out.size))
        have IA6 := Lib.hid (IA5.out.below ((drewN_base _ nq).trans (b6.mono (Nat.le_refl _))))
        have e0 : w6.cell? ⟨B0, 0, none⟩ = some (.string r.k) := by rw [hK.out.2]; exact b6.keptCell (show (w5.drewN nq).cell? ⟨B0, 0, none⟩ = _ from c0)
        clear hz hadd hg0 hok2 hgs hdr b6 c0 T5 BB5 IA5 IB5 FI EEE OK
        clear hfb
        subst hee
        go_wp2_with fail
        refine HD.out.mono ?_
        rintro e w7 ⟨rfl, T7, t7⟩
        have s7 : Stp b _ w7 := ⟨t7, T6.out.nocell⟩
        have IA7 := Lib.hid (s7.ints IA6.out)
        have BB7 := Lib.hid (s7.base BB6.out HGB.out)
        have F7 := Lib.hid (find_uni T7 (rows_drop RW4.out) pan hp)
        rw [HDR.out] at F7
        clear s7 t7 T7 T6 BB6 IA6 e0 HD
        go_wp2_with fail
        refine F7.out.mono ?_
        rintro e w8 ⟨vc, rfl, ic, b8⟩
        have FI8 := Lib.hid (ints_any (IA7.out.below b8) ic)
        have BB8 := Lib.hid (BB7.out.trans (b8.mono BB7.out.size))
        rw [decide_eq_true rfl] at FI8
        clear ic b8 IA7 BB7 F7
        go_wp2_with fail
        refine FI8.out.mono ?_
        rintro e w9 ⟨rfl, b9⟩
        have BB9 := Lib.hid (BB8.out.trans (b9.mono BB8.out.size))
        clear b9 BB8 FI8
        go_wp2_with fail
        go_ret
        exact ⟨rfl, BB9.out⟩
      · have ht2 : tab2 = tab := by rw [← ET2.out]; unfold addT; rw [if_neg (by rw [EEE.out]; exact hee)]
        have hfb : fb = fa := by rw [← EFB.out, ht2]; exact EFA.out
        have BB6 := Lib.hid (BB5.out.trans (((drewN_base w5 nq).trans (b6.mono (Nat.le_refl _))).mono BB5.out.size))
        subst hfb
        rw [decide_eq_true rfl]
        have hne : (fb.isSome != fb.isSome) = false := by simp
        clear b6 c0 T5 BB5 IA5 IB5 FI ht2
        go_wp2_with fail
        go_ret
        exact ⟨rfl, BB6.out⟩
  · go_wp2_with fail
    have hle' : decide (K.size ≤ pan.size) = false := decide_eq_false (by omega)
    go_quiet (fail)
    go_wp2_with fail
    have HBG := Lib.hid (show ¬ (r.k.data.toList.length ≤ pan.data.toList.length ∧ pan.data.toList.take r.k.data.toList.length = r.k.data.toList) from fun h => by
      have h1 := h.1
      rw [← Lib.size_eq, ← Lib.size_eq, hK.out.2] at h1
      omega)
    clear hle'
    have FI := Lib.hid (ints_any (IA5.out.below (drewN_base w5 nq)) (IB5.out.below (drewN_base w5 nq)))
    refine FI.out.mono ?_
    rintro e w6 ⟨rfl, b6⟩
    by_cases hee : ee = 0
    · have hz : addE 6 tab r.k.data.toList r.to = 0 := EEE.out.trans hee
      have hadd : tab2 = add tab r.k.data.toList r.to := by rw [← ET2.out]; unfold addT; rw [if_pos hz]
      have hg0 := (addE_zero.1 hz).2.2.1
      have hok2 : okT 6 tab2 := by rw [hadd]; exact okT_add OK.out hz
      have HD := Lib.hid (drop_any (T5.out.below ((drewN_base _ nq).trans (b6.mono (Nat.le_refl _)))) hok2.2.1 r.k KS.out)
      have hgs : (routep.get tab2 r.k.data.toList).isSome = true := by rw [hadd, get_add _ _ _ _ hg0, if_pos rfl]; rfl
      have hdr : find (drop tab2 r.k.data.toList) pan.data.toList = fa := by rw [hadd, find_drop_add hg0]; exact EFA.out
      rw [hgs, if_pos rfl] at HD
      have hfb : fb = fa := by rw [← EFB.out, hadd, find_add_other hg0 HBG.out]; exact EFA.out
      rw [hfb, decide_eq_true rfl]
      have hne : (fa.isSome != fa.isSome) = false := by simp
      have HDR := Lib.hid hdr
      have T6 := Lib.hid (T5.out.below ((drewN_base _ nq).trans (b6.mono (Nat.le_refl _))))
      have BB6 := Lib.hid (BB5.out.trans (((drewN_base w5 nq).trans (b6.mono (Nat.le_refl _))).mono BB5.out.size))
      have IA6 := Lib.hid (IA5.out.below ((drewN_base _ nq).trans (b6.mono (Nat.le_refl _))))
      have e0 : w6.cell? ⟨B0, 0, none⟩ = some (.string r.k) := by rw [hK.out.2]; exact b6.keptCell (show (w5.drewN nq).cell? ⟨B0, 0, none⟩ = _ from c0)
      clear hz hadd hg0 hok2 hgs hdr b6 c0 T5 BB5 IA5 IB5 FI EEE OK
      clear hfb
      subst hee
      go_wp2_with fail
      refine HD.out.mono ?_
      rintro e w7 ⟨rfl, T7, t7⟩
      have s7 : Stp b _ w7 := ⟨t7, T6.out.nocell⟩
      have IA7 := Lib.hid (s7.ints IA6.out)
      have BB7 := Lib.hid (s7.base BB6.out HGB.out)
      have F7 := Lib.hid (find_uni T7 (rows_drop RW4.out) pan hp)
      rw [HDR.out] at F7
      clear s7 t7 T7 T6 BB6 IA6 e0 HD
      go_wp2_with fail
      refine F7.out.mono ?_
      rintro e w8 ⟨vc, rfl, ic, b8⟩
      have FI8 := Lib.hid (ints_any (IA7.out.below b8) ic)
      have BB8 := Lib.hid (BB7.out.trans (b8.mono BB7.out.size))
      rw [decide_eq_true rfl] at FI8
      clear ic b8 IA7 BB7 F7
      go_wp2_with fail
      refine FI8.out.mono ?_
      rintro e w9 ⟨rfl, b9⟩
      have BB9 := Lib.hid (BB8.out.trans (b9.mono BB8.out.size))
      clear b9 BB8 FI8
      go_wp2_with fail
      go_ret
      exact ⟨rfl, BB9.out⟩
    · have ht2 : tab2 = tab := by rw [← ET2.out]; unfold addT; rw [if_neg (by rw [EEE.out]; exact hee)]
      have hfb : fb = fa := by rw [← EFB.out, ht2]; exact EFA.out
      have BB6 := Lib.hid (BB5.out.trans (((drewN_base w5 nq).trans (b6.mono (Nat.le_refl _))).mono BB5.out.size))
      subst hfb
      rw [decide_eq_true rfl]
      have hne : (fb.isSome != fb.isSome) = false := by simp
      clear b6 c0 T5 BB5 IA5 IB5 FI ht2
      go_wp2_with fail
      go_ret
      exact ⟨rfl, BB6.out⟩
end Go.Proofs.YthfncbnokjikfaaDoor.routew
