/- Layer 11: New. Conditions: as each theorem says. -/
import Derived.Test.YthfncbnokjikfaaDoorRtE
namespace Go.Proofs.YthfncbnokjikfaaDoor.routew
open Go.RowKit
open Go.Proofs.YthfncbnokjikfaaDoor.routep
open Go.Proofs.YthfncbnokjikfaaDoor.mapfn
open Go.Proofs.YthfncbnokjikfaaDoor.buf
/-- A route that came in. -/
structure RtV where
  k : ByteArray
  to : List Int
  v : Value
def tabOf (rs : List RtV) : Tab := rs.map fun r => (r.k.data.toList, r.to)
def RtV.Ok (w : World) (r : RtV) : Prop := r.k.size ≤ maxLen ∧ r.to.length ≤ 1048576 ∧ IntsAt w r.v r.to
/-- Routes that came in. -/
def RoutesIn (w : World) (A : Option Addr) (rs : List RtV) : Prop := ∀ i (hi : i < rs.length), ∃ b o, A = some ⟨b, o, none⟩ ∧ b < w.heap.size ∧ rs[i].Ok w ∧ w.cell? ⟨b, o + i * 2, none⟩ = some (.string rs[i].k) ∧ w.cell? ⟨b, o + i * 2 + 1, none⟩ = some rs[i].v
theorem RoutesIn.below {w w' : World} {A : Option Addr} {rs : List RtV} (h : RoutesIn w A rs) (hb : Below w.heap.size w w') : RoutesIn w' A rs := by
  intro i hi
  obtain ⟨b, o, h1, h2, h3, h4, h5⟩ := h i hi
  exact ⟨b, o, h1, by have := hb.size; omega, ⟨h3.1, h3.2.1, h3.2.2.below hb⟩, hb.keptCell h4, hb.keptCell h5⟩
theorem Below.turn {B : Nat} {w w1 w2 : World} {b : Nat} (h : Below B w w1) (hB : B ≤ w1.heap.size) (t : Turn [b] w1 w2) (hb : B ≤ b) : Below B w w2 := h.trans (t.below hB (by simpa using hb))
set_option maxRecDepth 100000 in
set_option maxHeartbeats 2000000 in
theorem new_in {w : World} {A : Option Addr} {rs : List RtV} (h : RoutesIn w A rs) (hn : rs.length ≤ 1048576) (c : Nat) {mem : Int} (hm : 1 ≤ mem ∧ mem ≤ 6) :
    Calls Tryd.prog 8 #[.slice A rs.length c, .int .i64 mem] w fun e w' => Below w.heap.size w w' ∧
      (((newR mem [] (tabOf rs)).2 ≠ 0 ∧ e = .returned (.tuple #[.pointer none, .int .i64 (newR mem [] (tabOf rs)).2])) ∨
       ((newR mem [] (tabOf rs)).2 = 0 ∧ ∃ g b, e = .returned (.tuple #[.pointer (some ⟨g, 0, none⟩), .int .i64 0]) ∧ TabAt w' g b mem (tabOf rs) ∧ w.heap.size ≤ g ∧ w.heap.size ≤ b)) := by
  have H := Lib.hid h
  have hlen : (tabOf rs).length = rs.length := by simp [tabOf]
  have HLEN := Lib.hid hlen
  obtain ⟨hm1, hm2⟩ := hm
  have hm1' : ¬ mem < 1 := by omega
  have hm2' : ¬ 6 < mem := by omega
  clear h hlen
  go_enter Tryd.func8, Tryd.ntmps8
  have HMM := Lib.hid (show (Instr.makeMap 55 none).run Tryd.prog w = .ok (.map (some w.heap.size)) (w.alloc (.map #[] 0)) by kernel_rfl)
  go_wp2_with (rw [HMM.out])
  have b0 : Below w.heap.size w ((w.alloc (.map #[] 0)).alloc (.cells #[.int .i64 mem, .map (some w.heap.size)] 57)) := ((Below.refl _ _).alloc (Nat.le_refl _) _).alloc (by simp) _
  have t0 : TabAt ((w.alloc (.map #[] 0)).alloc (.cells #[.int .i64 mem, .map (some w.heap.size)] 57)) (w.heap.size + 1) w.heap.size mem [] := by
    refine ⟨?_, fun _ => none, ?_, fun k => ⟨fun _ => rfl, fun to h => by cases h⟩⟩
    · have := heap_alloc_last (w.alloc (.map #[] 0)) (.cells #[.int .i64 mem, .map (some w.heap.size)] 57)
      simpa using this
    · exact (MapFn.made hdE Tryd.prog 9 w).block (Below.heap_alloc (w.alloc (.map #[] 0)) _ w.heap.size (by simp))
  obtain ⟨W0, e0⟩ : ∃ W, ((w.alloc (.map #[] 0)).alloc (.cells #[.int .i64 mem, .map (some w.heap.size)] 57)) = W := ⟨_, rfl⟩
  rw [e0] at b0 t0
  rw [e0]
  obtain ⟨g, eg⟩ : ∃ g, w.heap.size + 1 = g := ⟨_, rfl⟩
  obtain ⟨b, eb⟩ : ∃ b, w.heap.size = b := ⟨_, rfl⟩
  rw [eg, eb] at t0
  rw [eg, eb]
  have HGB := Lib.hid (show w.heap.size ≤ g ∧ w.heap.size ≤ b by omega)
  have T0 := Lib.hid t0
  have B0 := Lib.hid b0
  clear e0 eg eb t0 b0 HMM hm1' hm2'
  go_loopw [22] (fun i wr => ∃ k : Nat, k ≤ rs.length ∧ i = .int .i64 k ∧ k ≤ 32 ∧ Below w.heap.size w wr ∧ TabAt wr g b mem ((tabOf rs).take k) ∧ newR mem [] (tabOf rs) = newR mem ((tabOf rs).take k) ((tabOf rs).drop k)) (fun i _ => rs.length - (intOf i).toNat)
  case atStart => exact ⟨0, by omega, rfl, by omega, B0.out, by simpa using T0.out, by simp⟩
  case round =>
    obtain ⟨k, hk, rfl, h32, hbw, hT, hN⟩ := hrel
    have HT := Lib.hid hT
    have HN := Lib.hid hN
    have HB := Lib.hid hbw
    clear hT hN
    by_cases hlt : k < rs.length
    · have hlt' : (k : Int) < rs.length := by omega
      obtain ⟨b1, o, rfl, _, hok, q0, q1⟩ := (H.out.below hbw) k hlt
      obtain ⟨r, er⟩ : ∃ r, r = rs[k] := ⟨_, rfl⟩
      rw [← er] at hok q0 q1
      obtain ⟨p', c', ev⟩ := hok.2.2.shape
      have hI := hok.2.2
      rw [ev] at q1 hI
      have ER := Lib.hid er
      have HI := Lib.hid hI
      have HKS := Lib.hid hok.1
      have HTO := Lib.hid hok.2.1
      obtain ⟨W1, e1⟩ : ∃ W, wr.alloc (.cells #[.string r.k, .slice p' r.to.length c'] 25) = W := ⟨_, rfl⟩
      have b1' : Below wr.heap.size wr W1 := by rw [← e1]; exact (Below.refl _ _).alloc (Nat.le_refl _) _
      have hT1 := HT.out.below b1'
      have HADD := Lib.hid (add_any hT1 (by rw [List.length_take]; omega) r.k HKS.out (HI.out.below b1') HTO.out)
      have HB1 := Lib.hid b1'
      have E1 := Lib.hid e1
      clear hok er hbw hI ev e1 b1' hT1
      go_wp2_with fail
      rw [E1.out]
      refine HADD.out.mono ?_
      rintro e w2 ⟨rfl, hT2, ht2⟩
      have hadd : tabOf rs = (tabOf rs).take k ++ (tabOf rs).drop k := (List.take_append_drop _ _).symm
      have hkt : k < (tabOf rs).length := by have := HLEN.out; omega
      have hel : (tabOf rs)[k] = (r.k.data.toList, r.to) := by simp [tabOf, ER.out]
      have hdr : (tabOf rs).drop k = (r.k.data.toList, r.to) :: (tabOf rs).drop (k + 1) := by rw [List.drop_eq_getElem_cons hkt, hel]
      have htk : add ((tabOf rs).take k) r.k.data.toList r.to = (tabOf rs).take (k + 1) := by rw [List.take_succ_eq_append_getElem hkt, hel]; rfl
      have hbw2 : Below w.heap.size w w2 := Below.turn (HB.out.trans (HB1.out.mono HB.out.size)) (by have := HB.out.size; have := HB1.out.size; omega) ht2 HGB.out.2
      by_cases he : addE mem ((tabOf rs).take k) r.k.data.toList r.to = 0
      · have h31 : k + 1 ≤ 32 := by
          have := (addE_zero.1 he).2.2.2
          rw [List.length_take] at this
          have := HLEN.out
          omega
        have hN2 : newR mem [] (tabOf rs) = newR mem ((tabOf rs).take (k + 1)) ((tabOf rs).drop (k + 1)) := by
          rw [HN.out, hdr, newR, if_pos he, htk]
        unfold addT at hT2
        rw [if_pos he, htk] at hT2
        have HH := Lib.hid (And.intro hbw2 (And.intro hT2 (And.intro hN2 h31)))
        rw [he]
        clear he hN2 hT2 hbw2 htk hdr hel hkt hadd ht2 h31
        go_wp2_with fail
        go_roundw
        case rel => exact ⟨k + 1, by omega, rfl, HH.out.2.2.2, HH.out.1, HH.out.2.1, HH.out.2.2.1⟩
        case measure => simp [intOf]; omega
      · have hN2 : (newR mem [] (tabOf rs)).2 = addE mem ((tabOf rs).take k) r.k.data.toList r.to := by
          rw [HN.out, hdr, newR, if_neg he]
        obtain ⟨ee, hee⟩ : ∃ ee, addE mem ((tabOf rs).take k) r.k.data.toList r.to = ee := ⟨_, rfl⟩
        rw [hee] at he hN2
        rw [hee]
        have HH := Lib.hid (And.intro hbw2 (And.intro hN2 he))
        clear hN2 hT2 hbw2 htk hdr hel hkt hadd ht2 hee
        go_wp2_with fail
        go_ret2
        exact ⟨HH.out.1, .inl ⟨by rw [HH.out.2.1]; exact HH.out.2.2, by rw [HH.out.2.1]; rfl⟩⟩
    · obtain rfl : k = rs.length := by omega
      have hN2 : newR mem [] (tabOf rs) = (tabOf rs, 0) := by rw [HN.out, ← HLEN.out, List.take_length, List.drop_length, newR]
      have hT2 := HT.out
      rw [← HLEN.out, List.take_length] at hT2
      have HH := Lib.hid (And.intro hN2 hT2)
      clear hN2 hT2 hbw
      have hlt' : ¬ (rs.length : Int) < rs.length := by omega
      go_wp2_with fail
      go_ret2
      refine ⟨HB.out, .inr ⟨by rw [HH.out.1], ?_⟩⟩
      exact ⟨g, rfl, b, HH.out.2, HGB.out⟩
end Go.Proofs.YthfncbnokjikfaaDoor.routew
