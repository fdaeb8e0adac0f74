/- Layer 11's statements: are two rows of routes the same. Conditions: as each theorem says. -/
import Derived.Test.YthfncbnokjikfaaDoorRtH
namespace Go.Proofs.YthfncbnokjikfaaDoor.routew
open Go.RowKit
open Go.Proofs.YthfncbnokjikfaaDoor.routep
open Go.Proofs.YthfncbnokjikfaaDoor.mapfn
open Go.Proofs.YthfncbnokjikfaaDoor.buf
theorem tabOf_take (rs : List RtV) (k : Nat) (h : k < rs.length) : (tabOf rs).take (k + 1) = (tabOf rs).take k ++ [(rs[k].k.data.toList, rs[k].to)] := by
  have hk : k < (tabOf rs).length := by simpa [tabOf] using h
  rw [List.take_succ_eq_append_getElem hk]
  simp [tabOf]
theorem same_any {w : World} {A A2 : Option Addr} {rs rs2 : List RtV} {c c2 : Nat} (h : RoutesIn w A rs) (h2 : RoutesIn w A2 rs2) (hn : rs.length ≤ 1048576) :
    Calls Tryd.prog 13 #[.slice A rs.length c, .slice A2 rs2.length c2] w fun e w' => e = .returned (.bool (decide (tabOf rs = tabOf rs2))) ∧ Below w.heap.size w w' := by
  have HA := Lib.hid h
  have HB := Lib.hid h2
  clear h h2
  by_cases hlen : rs.length = rs2.length
  · rw [← hlen]
    have hll : (tabOf rs).length = (tabOf rs2).length := by simp [tabOf, hlen]
    have HLL := Lib.hid hll
    have HTL := Lib.hid (show (tabOf rs).length = rs.length by simp [tabOf])
    clear hll
    go_enter Tryd.func13, Tryd.ntmps13
    go_wp2_with fail
    go_loopw [5] (fun i wr => (∃ m, wr = w.drewN m) ∧ ∃ k : Nat, k ≤ rs.length ∧ i = .int .i64 k ∧ (tabOf rs).take k = (tabOf rs2).take k) (fun i _ => rs.length - (intOf i).toNat)
    case atStart => exact ⟨⟨0, rfl⟩, 0, by omega, rfl, by simp⟩
    case round =>
      obtain ⟨hd, k, hk, rfl, he⟩ := hrel
      have hbw : Below w.heap.size w wr := by obtain ⟨m, rfl⟩ := hd; exact drewN_base _ _
      have HDR := Lib.hid hd
      by_cases hlt : k < rs.length
      · have hlb : k < rs2.length := by omega
        obtain ⟨b1, o1, rfl, _, ok1, p0, p1⟩ := (HA.out.below hbw) k hlt
        obtain ⟨b2, o2, rfl, _, ok2, q0, q1⟩ := (HB.out.below hbw) k hlb
        have hlt' : (k : Int) < rs.length := by omega
        have HT1 := Lib.hid (tabOf_take rs k hlt)
        have HT2 := Lib.hid (tabOf_take rs2 k hlb)
        have HKT := Lib.hid (And.intro hlt hlb)
        obtain ⟨x, ex⟩ : ∃ x, x = rs[k] := ⟨_, rfl⟩
        obtain ⟨y, ey⟩ : ∃ y, y = rs2[k] := ⟨_, rfl⟩
        rw [← ex] at p0 p1 ok1 HT1
        rw [← ey] at q0 q1 ok2 HT2
        have HQ := Lib.hid (fun n : Nat => ints_q (w := wr.drewN n) (ok1.2.2.below (drewN_base wr n)) (ok2.2.2.below (drewN_base wr n)))
        have HE := Lib.hid he
        obtain ⟨kx, hkx⟩ : ∃ kx, x.k = kx := ⟨_, rfl⟩
        obtain ⟨ky, hky⟩ : ∃ ky, y.k = ky := ⟨_, rfl⟩
        rw [hkx] at p0 HT1
        rw [hky] at q0 HT2
        obtain ⟨tq, htq⟩ : ∃ tq, decide (x.to = y.to) = tq := ⟨_, rfl⟩
        have HTQ := Lib.hid htq
        rw [htq] at HQ
        have HFALSE : Hid (¬ (kx = ky ∧ tq = true) → decide (tabOf rs = tabOf rs2) = false) := Lib.hid (fun hne => decide_eq_false fun e => by
          have h1 := HT1.out
          rw [e, HT2.out] at h1
          have h0 := List.append_cancel_left h1
          simp only [List.cons.injEq, Prod.mk.injEq, and_true] at h0
          refine hne ⟨?_, ?_⟩
          · have h1 : kx.data = ky.data := Array.toList_inj.1 h0.1.symm
            cases kx; cases ky; simp_all
          · rw [← HTQ.out, decide_eq_true h0.2.symm])
        have HBW := Lib.hid hbw
        clear he ex ey ok1 ok2 hkx hky htq hd hbw
        go_wp2_with fail
        go_quiet (exact Calls.quiet_of (HQ.out _))
        go_wp2_with fail
        by_cases hkk : kx = ky
        · subst hkk
          cases tq with
          | true =>
            go_quiet (fail)
            go_wp2_with fail
            go_roundw
            case rel =>
              refine ⟨by obtain ⟨m, rfl⟩ := HDR.out; exact ⟨_, World.drewN_drewN _ _ _⟩, k + 1, by omega, by go_num, ?_⟩
              rw [HT1.out, HT2.out, HE.out, of_decide_eq_true HTQ.out]
            case measure => simp [intOf]; omega
          | false =>
            have HF := Lib.hid (HFALSE.out (by simp))
            go_quiet (fail)
            go_wp2_with fail
            go_ret
            exact ⟨by rw [HF.out]; rfl, by first | exact HBW.out.trans (drewN_base _ _) | exact (HBW.out.trans (drewN_base _ _)).trans (drewN_base _ _)⟩
        · have HF := Lib.hid (HFALSE.out (fun h => hkk h.1))
          have hb : (kx.toList == ky.toList) = false := by
            rw [beq_eq_false_iff_ne, Lib.toList_data, Lib.toList_data]
            intro e
            have h1 : kx.data = ky.data := Array.toList_inj.1 e
            cases kx; cases ky; simp_all
          have hb2 : (kx.toList != ky.toList) = true := by rw [bne, hb]; rfl
          go_quiet (fail)
          go_wp2_with fail
          go_ret
          exact ⟨by rw [HF.out]; rfl, by first | exact HBW.out.trans (drewN_base _ _) | exact (HBW.out.trans (drewN_base _ _)).trans (drewN_base _ _)⟩
      · obtain rfl : k = rs.length := by omega
        have hlt' : ¬ (rs.length : Int) < rs.length := by omega
        have heq : tabOf rs = tabOf rs2 := by
          rw [← HTL.out, List.take_length, HLL.out, List.take_length] at he
          exact he
        have HQ := Lib.hid heq
        have HB2 := Lib.hid hbw
        clear heq he hbw hd
        go_wp2_with fail
        go_ret
        exact ⟨by rw [decide_eq_true HQ.out]; rfl, HB2.out⟩
  · have hn : ¬ ((rs.length : Int) = rs2.length) := by omega
    have HF := Lib.hid (show decide (tabOf rs = tabOf rs2) = false from decide_eq_false fun e => by
      have := congrArg List.length e
      simp [tabOf] at this
      exact hlen this)
    go_enter Tryd.func13, Tryd.ntmps13
    go_wp2_with fail
    go_ret
    exact ⟨by rw [HF.out]; rfl, Below.refl _ _⟩
end Go.Proofs.YthfncbnokjikfaaDoor.routew
