/- Layer 11: may members be; are two rows of numbers the same. Conditions: as each theorem says. -/
import Derived.Test.YthfncbnokjikfaaDoorRtA
namespace Go.Proofs.YthfncbnokjikfaaDoor.routew
open Go.RowKit
open Go.Proofs.YthfncbnokjikfaaDoor.routep
open Go.Proofs.YthfncbnokjikfaaDoor.mapfn
open Go.Proofs.YthfncbnokjikfaaDoor.buf
theorem IntsAt.get {w : World} {p : Option Addr} {n c : Nat} {zs : List Int} (h : IntsAt w (.slice p n c) zs) : ∀ i (_ : i < zs.length), ∃ b o, p = some ⟨b, o, none⟩ ∧ w.cell? ⟨b, o + i, none⟩ = some (.int .i64 zs[i]) := by
  intro i hi
  obtain ⟨_, ⟨rfl, _⟩ | ⟨b, o, c', hv, h2, _, h3⟩⟩ := h
  · simp at hi
  · simp only [Value.slice.injEq] at hv
    exact ⟨b, o, hv.1, h3 i hi⟩
theorem mayTo_step (mem : Int) (zs : List Int) (i : Nat) (hi : i < zs.length) : mayTo mem (zs.take i) (zs.drop i) = (decide (0 ≤ zs[i] ∧ zs[i] < mem) && !(zs.take i).contains zs[i] && mayTo mem (zs.take (i + 1)) (zs.drop (i + 1))) := by
  rw [List.drop_eq_getElem_cons hi, mayTo, List.take_succ_eq_append_getElem hi]
theorem may_any {w : World} {g : Nat} {mem : Int} (hm : w.cell? ⟨g, 0, none⟩ = some (.int .i64 mem)) {v : Value} {zs : List Int} (h : IntsAt w v zs) :
    Calls Tryd.prog 25 #[.pointer (some ⟨g, 0, none⟩), v] w fun e w' => e = .returned (.bool (mayRow mem zs)) ∧ w' = w := by
  obtain ⟨p, c, rfl⟩ := h.shape
  have hl := h.1
  simp only [maxLen] at hl
  have HC := Lib.hid h
  have HG := Lib.hid h.get
  clear h
  go_enter Tryd.func25, Tryd.ntmps25
  go_wp2_with fail
  go_loopw [9] (fun i wr => wr = w ∧ ∃ k : Nat, k ≤ zs.length ∧ i = .int .i64 k ∧ mayTo mem [] zs = mayTo mem (zs.take k) (zs.drop k)) (fun i _ => zs.length - (intOf i).toNat)
  case atStart => exact ⟨rfl, 0, by omega, rfl, by simp⟩
  case round =>
    obtain ⟨rfl, k, hk, rfl, he⟩ := hrel
    by_cases hlt : k < zs.length
    · obtain ⟨b, o, rfl, hc⟩ := HG.out k hlt
      have hlt' : (k : Int) < zs.length := by omega
      have hst := mayTo_step mem zs k hlt
      have HCT := Lib.hid (contains_any HC.out zs[k] k hk (c' := c) rfl)
      obtain ⟨z, ez⟩ : ∃ z, z = zs[k] := ⟨_, rfl⟩
      rw [← ez] at hc hst HCT
      rw [hst] at he
      have HE := Lib.hid he
      clear he hst ez
      have hkc : k ≤ c := by have := HC.out.room (by omega); omega
      by_cases z0 : z < 0
      · have hr : mayRow mem zs = false := by
          have : decide (0 ≤ z ∧ z < mem) = false := by rw [decide_eq_false_iff_not]; omega
          unfold mayRow
          rw [HE.out, this]
          rfl
        have HR := Lib.hid hr
        clear hr
        go_wp2_with fail
        go_ret
        exact ⟨by rw [HR.out]; rfl, rfl⟩
      · by_cases z1 : mem ≤ z
        · have hr : mayRow mem zs = false := by
            have : decide (0 ≤ z ∧ z < mem) = false := by rw [decide_eq_false_iff_not]; omega
            unfold mayRow
            rw [HE.out, this]
            rfl
          have HR := Lib.hid hr
          clear hr
          go_wp2_with fail
          go_ret
          exact ⟨by rw [HR.out]; rfl, rfl⟩
        · have hd : decide (0 ≤ z ∧ z < mem) = true := by rw [decide_eq_true_iff]; omega
          cases hcn : (zs.take k).contains z with
          | true =>
            rw [hcn] at HCT
            have hr : mayRow mem zs = false := by
              unfold mayRow
              rw [HE.out, hd, hcn]
              rfl
            have HR := Lib.hid hr
            clear hr
            clear hcn hd
            go_wp2_with fail
            refine HCT.out.mono ?_
            rintro e x ⟨rfl, rfl⟩
            go_wp2_with fail
            go_ret
            exact ⟨by rw [HR.out]; rfl, rfl⟩
          | false =>
            rw [hcn] at HCT
            have HE2 := Lib.hid (show mayTo mem [] zs = mayTo mem (zs.take (k + 1)) (zs.drop (k + 1)) by rw [HE.out, hd, hcn]; simp)
            clear hcn hd
            go_wp2_with fail
            refine HCT.out.mono ?_
            rintro e x ⟨rfl, rfl⟩
            go_wp2_with fail
            go_roundw
            case rel => exact ⟨by first | trivial | rfl, k + 1, by omega, rfl, HE2.out⟩
            case measure => simp [intOf]; omega
    · obtain rfl : k = zs.length := by omega
      have hr : mayRow mem zs = decide (0 < zs.length) := by
        unfold mayRow
        rw [he, List.drop_length, mayTo, Bool.true_and]
        cases zs <;> simp
      by_cases h0 : 0 < zs.length
      · rw [decide_eq_true h0] at hr
        have h0' : (0 : Int) < zs.length := by omega
        have HR := Lib.hid hr
        clear hr he
        go_wp2_with fail
        go_ret
        exact ⟨by rw [HR.out]; rfl, rfl⟩
      · rw [decide_eq_false h0] at hr
        have h0' : (zs.length : Int) = 0 := by omega
        have HR := Lib.hid hr
        clear hr he
        go_wp2_with fail
        go_ret
        exact ⟨by rw [HR.out]; rfl, rfl⟩
theorem drewN_base {B : Nat} (w : World) (n : Nat) : Below B w (w.drewN n) := ⟨rfl, rfl, rfl, Nat.le_refl _, fun _ _ => rfl⟩
theorem ints_q {w : World} {va vb : Value} {a b : List Int} (ha : IntsAt w va a) (hb : IntsAt w vb b) : Calls Tryd.prog 11 #[va, vb] w fun e w' => e = .returned (.bool (decide (a = b))) ∧ ∃ m, w' = w.drewN m := by
  obtain ⟨p, c, rfl⟩ := ha.shape
  obtain ⟨q, d, rfl⟩ := hb.shape
  have hl := ha.1
  simp only [maxLen] at hl
  have HA := Lib.hid ha
  have HB := Lib.hid hb
  clear ha hb
  by_cases hlen : a.length = b.length
  · rw [← hlen]
    have hnn : ¬ ((a.length : Int) ≠ a.length) := by simp
    go_enter Tryd.func11, Tryd.ntmps11
    go_wp2_with fail
    go_loopw [5] (fun i wr => (∃ m, wr = w.drewN m) ∧ ∃ k : Nat, k ≤ a.length ∧ i = .int .i64 k ∧ a.take k = b.take k) (fun i _ => a.length - (intOf i).toNat)
    case atStart => exact ⟨⟨0, rfl⟩, 0, by omega, rfl, by simp⟩
    case round =>
      obtain ⟨⟨nm, rfl⟩, k, hk, rfl, he⟩ := hrel
      by_cases hlt : k < a.length
      · obtain ⟨b1, o1, rfl, h1⟩ := HA.out.get k hlt
        obtain ⟨b2, o2, rfl, h2⟩ := HB.out.get k (by omega)
        have hlt' : (k : Int) < a.length := by omega
        have hlb : k < b.length := by omega
        obtain ⟨x, ex⟩ : ∃ x, x = a[k] := ⟨_, rfl⟩
        obtain ⟨y, ey⟩ : ∃ y, y = b[k] := ⟨_, rfl⟩
        rw [← ex] at h1
        rw [← ey] at h2
        have HE := Lib.hid he
        have HX := Lib.hid ex
        have HY := Lib.hid ey
        have HL := Lib.hid hlen
        clear he ex ey hlen
        by_cases hxy : x = y
        · subst hxy
          go_wp2_with fail
          go_quiet (fail)
          go_wp2_with fail
          go_roundw
          case rel => exact ⟨⟨_, by first | rfl | exact World.drewN_drewN _ _ _⟩, k + 1, by omega, rfl, by rw [List.take_succ_eq_append_getElem hlt, List.take_succ_eq_append_getElem hlb, HE.out, ← HX.out, ← HY.out]⟩
          case measure => simp [intOf]; omega
        · go_wp2_with fail
          go_quiet (fail)
          go_wp2_with fail
          go_ret
          refine ⟨?_, nm + nq, by first | rfl | exact World.drewN_drewN _ _ _⟩
          rw [decide_eq_false]
          rfl
          intro e
          subst e
          exact hxy (HX.out.trans HY.out.symm)
      · obtain rfl : k = a.length := by omega
        have heq : a = b := by rwa [List.take_length, hlen, List.take_length] at he
        have HQ := Lib.hid heq
        clear heq he
        go_wp2_with fail
        go_ret
        exact ⟨by rw [decide_eq_true HQ.out]; rfl, _, rfl⟩
  · have hn : ¬ ((a.length : Int) = b.length) := by omega
    go_enter Tryd.func11, Tryd.ntmps11
    go_wp2_with fail
    go_ret
    exact ⟨by rw [decide_eq_false fun e => hlen (by rw [e])]; rfl, 0, rfl⟩
theorem ints_any {w : World} {va vb : Value} {a b : List Int} (ha : IntsAt w va a) (hb : IntsAt w vb b) : Calls Tryd.prog 11 #[va, vb] w fun e w' => e = .returned (.bool (decide (a = b))) ∧ Below w.heap.size w w' :=
  (ints_q ha hb).mono fun _ _ ⟨h, m, hm⟩ => ⟨h, by rw [hm]; exact drewN_base _ _⟩
end Go.Proofs.YthfncbnokjikfaaDoor.routew
