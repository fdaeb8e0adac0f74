/- Layer 11: each route is found by its own prefix: the law's walk. Conditions: as the theorem says. -/
import Derived.Test.YthfncbnokjikfaaDoorRtJ
import Derived.Test.YthfncbnokjikfaaDoorRtH
namespace Go.Proofs.YthfncbnokjikfaaDoor.routew
open Go.RowKit
open Go.Proofs.YthfncbnokjikfaaDoor.routep
open Go.Proofs.YthfncbnokjikfaaDoor.mapfn
open Go.Proofs.YthfncbnokjikfaaDoor.buf
/-- Does a card begin with a prefix? -/
def begB (pan k : Key) : Bool := decide (k.length ≤ pan.length ∧ pan.take k.length = k)
theorem own_get {l : Tab} (hn : (l.map (·.1)).Nodup) {k : Key} {to : List Int} (hm : (k, to) ∈ l) : routep.get l k = some to := (get_mem hn).2 hm
theorem any_find {mem : Int} {l : Tab} (hok : okT mem l) (pan : Key) : l.any (fun p => begB pan p.1) = (find l pan).isSome := by
  rw [Bool.eq_iff_iff, find_some (fun p hp => by
    have := (hok.1 p hp).1
    simp only [mayKey, Bool.and_eq_true, decide_eq_true_eq] at this
    exact this.1), List.any_eq_true]
  simp only [begB, decide_eq_true_eq]
set_option maxRecDepth 100000 in
set_option maxHeartbeats 2000000 in
theorem own_walk (w : World) {A : Option Addr} {rs : List RtV} (c : Nat) (h : RoutesIn w A rs) (hn : rs.length ≤ 1048576) (pan : ByteArray) (hp : pan.size ≤ maxLen) :
    Calls Tryd.prog 5 #[.slice A rs.length c, .string pan] w fun e w' => e = .returned (.bool true) ∧ Below w.heap.size w w' := by
  have H0 := Lib.hid h
  have HS := Lib.hid (shown_any w)
  clear h
  go_enter Tryd.func5, Tryd.ntmps5
  go_wp2_with fail
  refine HS.out.mono ?_
  rintro e w1 ⟨rfl, b1⟩
  have HN := Lib.hid (new_in (H0.out.below b1) hn c (mem := 6) (by omega))
  have HR1 := Lib.hid (H0.out.below b1)
  have BB1 := Lib.hid b1
  clear HS H0 b1
  go_wp2_with fail
  refine HN.out.mono ?_
  rintro e w2 ⟨b2, ⟨hne, rfl⟩ | ⟨hz, g, b, rfl, hT, hg, hb⟩⟩
  · obtain ⟨ee, hee⟩ : ∃ ee, (newR 6 [] (tabOf rs)).2 = ee := ⟨_, rfl⟩
    rw [hee] at hne
    rw [hee]
    have BB2 := Lib.hid (BB1.out.trans (b2.mono BB1.out.size))
    clear HN BB1 HR1 b2 hee
    go_wp2_with fail
    go_ret
    exact ⟨rfl, BB2.out⟩
  have hok : okT 6 (tabOf rs) := by
    have := (newR_ok 6 (tabOf rs) [] (okT_nil 6)).1.1 hz
    simpa using this
  have OK := Lib.hid hok
  have RW := Lib.hid (rows_of HR1.out hok)
  have T2 := Lib.hid hT
  have R2 := Lib.hid (HR1.out.below b2)
  have BB2 := Lib.hid (BB1.out.trans (b2.mono BB1.out.size))
  clear hz hT hg hb b2 HN BB1 HR1 hok
  go_wp2_with fail
  go_loopw [9, 8] (fun i s wr => ∃ k : Nat, k ≤ rs.length ∧ i = .int .i64 k ∧ s = .bool (((tabOf rs).take k).any fun p => begB pan.data.toList p.1) ∧ Below w2.heap.size w2 wr) (fun i _ _ => rs.length - (intOf i).toNat)
  case atStart => exact ⟨0, by omega, rfl, by simp, Below.refl _ _⟩
  case round =>
    obtain ⟨k, hk, rfl, rfl, hbw⟩ := hrel
    by_cases hlt : k < rs.length
    · have hlt' : (k : Int) < rs.length := by omega
      obtain ⟨b1, o1, rfl, _, ok1, p0, p1⟩ := (R2.out.below hbw) k hlt
      have HT1 := Lib.hid (show (tabOf rs).take (k + 1) = (tabOf rs).take k ++ [(rs[k].k.data.toList, rs[k].to)] by
        have hkt : k < (tabOf rs).length := by simpa [tabOf] using hlt
        rw [List.take_succ_eq_append_getElem hkt]
        simp [tabOf])
      have hmem : (rs[k].k.data.toList, rs[k].to) ∈ tabOf rs := List.mem_map.2 ⟨rs[k], List.getElem_mem hlt, rfl⟩
      obtain ⟨x, ex⟩ : ∃ x, x = rs[k] := ⟨_, rfl⟩
      rw [← ex] at p0 p1 ok1 HT1 hmem
      have hfo : find (tabOf rs) x.k.data.toList = some x.to := find_own (own_get OK.out.2.1 hmem) (by
        have := (OK.out.1 _ hmem).1
        simp only [mayKey, Bool.and_eq_true, decide_eq_true_eq] at this
        exact this.1)
      have F := Lib.hid (find_uni (T2.out.below hbw) RW.out x.k ok1.1)
      rw [hfo] at F
      obtain ⟨kx, hkx⟩ : ∃ kx, x.k = kx := ⟨_, rfl⟩
      rw [hkx] at p0 F HT1
      have HI := Lib.hid ok1.2.2
      obtain ⟨sb, hsb⟩ : ∃ sb, (((tabOf rs).take k).any fun p => begB pan.data.toList p.1) = sb := ⟨_, rfl⟩
      rw [hsb]
      have HSB := Lib.hid hsb
      have HBW := Lib.hid hbw
      clear ex hmem hfo ok1 hkx hsb hbw
      go_wp2_with fail
      refine F.out.mono ?_
      rintro e w3 ⟨v, rfl, iv, b3⟩
      have q0 : w3.cell? ⟨b1, o1 + k * 2, none⟩ = some (.string kx) := b3.keptCell p0
      have q1 : w3.cell? ⟨b1, o1 + k * 2 + 1, none⟩ = some x.v := b3.keptCell p1
      have FI := Lib.hid (ints_any iv (show IntsAt w3 x.v ((some x.to).getD []) from HI.out.below b3))
      have HB3 := Lib.hid b3
      rw [decide_eq_true rfl] at FI
      clear iv b3 p0 p1 F
      go_wp2_with fail
      refine FI.out.mono ?_
      rintro e w4 ⟨rfl, b4⟩
      have r0 : w4.cell? ⟨b1, o1 + k * 2, none⟩ = some (.string kx) := b4.keptCell q0
      have HB4 := Lib.hid (HBW.out.trans ((HB3.out.trans (b4.mono HB3.out.size)).mono HBW.out.size))
      have hnext : (((tabOf rs).take (k + 1)).any fun p => begB pan.data.toList p.1) = (sb || begB pan.data.toList kx.data.toList) := by
        rw [HT1.out, List.any_append, HSB.out]
        simp
      have HNX := Lib.hid hnext
      clear q0 q1 b4 hnext FI
      cases sb with
      | true =>
        go_wp2_with fail
        go_roundw
        case rel => exact ⟨k + 1, by omega, by go_num, by rw [HNX.out]; rfl, HB4.out⟩
        case measure => simp [intOf]; omega
      | false =>
        by_cases hle : (kx.size : Int) ≤ pan.size
        · have hsl : ((pan.extract 0 kx.size).toList == kx.toList) = begB pan.data.toList kx.data.toList := by
            rw [Lib.toList_data, Lib.toList_data, extract_key, Bool.eq_iff_iff, beq_iff_eq]
            unfold begB
            rw [decide_eq_true_iff, ← Lib.size_eq, ← Lib.size_eq]
            exact ⟨fun h => ⟨by omega, h⟩, fun h => h.2⟩
          obtain ⟨bg, hbg⟩ : ∃ bg, begB pan.data.toList kx.data.toList = bg := ⟨_, rfl⟩
          rw [hbg] at hsl HNX
          clear hbg
          go_wp2_with fail
          go_roundw
          case rel => exact ⟨k + 1, by omega, by go_num, by rw [HNX.out]; first | rfl | simp [hsl], HB4.out⟩
          case measure => simp [intOf]; omega
        · have hbg : begB pan.data.toList kx.data.toList = false := by
            unfold begB
            rw [decide_eq_false_iff_not, ← Lib.size_eq, ← Lib.size_eq]
            exact fun h => by omega
          rw [hbg] at HNX
          clear hbg
          go_wp2_with fail
          go_roundw
          case rel => exact ⟨k + 1, by omega, by go_num, by rw [HNX.out]; rfl, HB4.out⟩
          case measure => simp [intOf]; omega
    · obtain rfl : k = rs.length := by omega
      have hlt' : ¬ (rs.length : Int) < rs.length := by omega
      have htl : (tabOf rs).length = rs.length := by simp [tabOf]
      have hany : (((tabOf rs).take rs.length).any fun p => begB pan.data.toList p.1) = (find (tabOf rs) pan.data.toList).isSome := by
        rw [← htl, List.take_length, any_find OK.out]
      rw [hany]
      have F := Lib.hid (find_uni (T2.out.below hbw) RW.out pan hp)
      obtain ⟨fs, hfs⟩ : ∃ fs, (find (tabOf rs) pan.data.toList) = fs := ⟨_, rfl⟩
      rw [hfs] at F
      rw [hfs]
      have HBW := Lib.hid hbw
      have HTL := Lib.hid htl
      clear hany hfs hbw htl
      go_wp2_with fail
      refine F.out.mono ?_
      rintro e w3 ⟨v, rfl, iv, b3⟩
      have hT3 := T2.out.below (HBW.out.trans (b3.mono HBW.out.size))
      have FL := Lib.hid (list_any hT3 OK.out.2.1 OK.out.2.2 RW.out (fun p hpm => by
        have := (OK.out.1 p hpm).1
        simp only [mayKey, Bool.and_eq_true, decide_eq_true_eq] at this
        exact this.1.2))
      have HB3 := Lib.hid (BB2.out.trans ((HBW.out.trans (b3.mono HBW.out.size)).mono BB2.out.size))
      have hself : (fs.isSome == fs.isSome) = true := by simp
      clear iv b3 hT3 F
      go_wp2_with fail
      refine FL.out.mono ?_
      rintro e w4 ⟨vl, rs4, rfl, b4, o4, t4⟩
      obtain ⟨A4, c4, rfl, _⟩ := o4.routes
      have hl4 : rs4.length = rs.length := by
        have := congrArg List.length t4
        rw [show (tabOf rs4).length = rs4.length by simp [tabOf], show (listOf (tabOf rs)).length = (tabOf rs).length by simp [listOf]; exact sortedKeys_len _, HTL.out] at this
        exact this
      rw [hl4]
      have HB4 := Lib.hid (HB3.out.trans (b4.mono HB3.out.size))
      clear b4 o4 t4 hl4 FL
      go_wp2_with fail
      go_ret
      exact ⟨rfl, HB4.out⟩
end Go.Proofs.YthfncbnokjikfaaDoor.routew
