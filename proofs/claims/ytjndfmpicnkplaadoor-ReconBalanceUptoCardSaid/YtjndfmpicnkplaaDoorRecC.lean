/- Layer 20: totals in memory; which one is a member's. Conditions: as each theorem says. -/
import Derived.Test.YtjndfmpicnkplaaDoorMsgG
namespace Go.Proofs.YtjndfmpicnkplaaDoor.msgw
open Go.RowKit
open Go.Proofs.YtjndfmpicnkplaaDoor.msgp
open Go.Proofs.YtjndfmpicnkplaaDoor.buf
/-- A total: a member and five numbers. -/
abbrev Tot := Int × Int × Int × Int × Int × Int
def totA (x : Tot) : Value := .agg #[.int .i64 x.1, .int .i64 x.2.1, .int .i64 x.2.2.1, .int .i64 x.2.2.2.1, .int .i64 x.2.2.2.2.1, .int .i64 x.2.2.2.2.2]
/-- A total's cells. -/
def TotIn (w : World) (b o : Nat) (x : Tot) : Prop := w.cell? ⟨b, o, none⟩ = some (.int .i64 x.1) ∧ w.cell? ⟨b, o + 1, none⟩ = some (.int .i64 x.2.1) ∧ w.cell? ⟨b, o + 2, none⟩ = some (.int .i64 x.2.2.1) ∧ w.cell? ⟨b, o + 3, none⟩ = some (.int .i64 x.2.2.2.1) ∧ w.cell? ⟨b, o + 4, none⟩ = some (.int .i64 x.2.2.2.2.1) ∧ w.cell? ⟨b, o + 5, none⟩ = some (.int .i64 x.2.2.2.2.2)
theorem TotIn.below {w w' : World} {b o : Nat} {x : Tot} (h : TotIn w b o x) (hb : Below w.heap.size w w') : TotIn w' b o x :=
  ⟨hb.keptCell h.1, hb.keptCell h.2.1, hb.keptCell h.2.2.1, hb.keptCell h.2.2.2.1, hb.keptCell h.2.2.2.2.1, hb.keptCell h.2.2.2.2.2⟩
/-- Totals in a slice. -/
def TotsAt (w : World) (v : Value) (L : List Tot) : Prop := L.length ≤ maxLen ∧ ∃ p c, v = .slice p L.length c ∧ ∀ i (h : i < L.length), ∃ b o, p = some ⟨b, o, none⟩ ∧ TotIn w b (o + i * 6) L[i]
theorem TotsAt.below {w w' : World} {v : Value} {L : List Tot} (h : TotsAt w v L) (hb : Below w.heap.size w w') : TotsAt w' v L := by
  obtain ⟨h0, p, c, h1, h3⟩ := h
  refine ⟨h0, p, c, h1, fun i hi => ?_⟩
  obtain ⟨b, o, h4, h5⟩ := h3 i hi
  exact ⟨b, o, h4, h5.below hb⟩
theorem TotsAt.shape {w : World} {v : Value} {L : List Tot} (h : TotsAt w v L) : ∃ p c, v = .slice p L.length c := by
  obtain ⟨_, p, c, h1, _⟩ := h
  exact ⟨p, c, h1⟩
theorem TotsAt.get {w : World} {p : Option Addr} {n c : Nat} {L : List Tot} (h : TotsAt w (.slice p n c) L) : ∀ i (h : i < L.length), ∃ b o, p = some ⟨b, o, none⟩ ∧ TotIn w b (o + i * 6) L[i] := by
  obtain ⟨_, p', c', h1, h3⟩ := h
  simp only [Value.slice.injEq] at h1
  obtain ⟨rfl, _, _⟩ := h1
  exact h3
/-- Which total is a member's. -/
def totAt (L : List Tot) (m : Int) : Nat := L.findIdx fun x => decide (x.1 = m)
theorem clos_tot {w : World} {bn : Nat} {m : Int} (hb : w.cell? ⟨bn, 0, none⟩ = some (.int .i64 m)) (x : Tot) :
    Calls Tryd.prog 20 #[totA x, .pointer (some ⟨bn, 0, none⟩)] w fun e w' => e = .returned (.bool (decide (x.1 = m))) ∧ Below w.heap.size w w' := by
  obtain ⟨x0, x1, x2, x3, x4, x5⟩ := x
  have hb2 := ((Below.refl w.heap.size w).alloc (Nat.le_refl _) (.cells #[.int .i64 x0, .int .i64 x1, .int .i64 x2, .int .i64 x3, .int .i64 x4, .int .i64 x5] 23)).keptCell hb
  have HB := Lib.hid ((Below.refl w.heap.size w).alloc (Nat.le_refl _) (.cells #[.int .i64 x0, .int .i64 x1, .int .i64 x2, .int .i64 x3, .int .i64 x4, .int .i64 x5] 23))
  clear hb
  unfold totA
  go_enter Tryd.func20, Tryd.ntmps20
  go_wp2_with fail
  go_ret
  exact ⟨by first | rfl | simp, HB.out⟩
theorem index_tot {w : World} {bn : Nat} {m : Int} {v : Value} {L : List Tot} (hb : w.cell? ⟨bn, 0, none⟩ = some (.int .i64 m)) (hT : TotsAt w v L) :
    Calls Tryd.prog 19 #[v, .func (.func 20) #[] #[.pointer (some ⟨bn, 0, none⟩)]] w fun e w' => e = .returned (.int .i64 (if totAt L m < L.length then (totAt L m : Nat) else -1)) ∧ Below w.heap.size w w' := by
  obtain ⟨p, c, rfl⟩ := hT.shape
  have hl := hT.1
  simp only [maxLen] at hl
  obtain ⟨R, eR⟩ : ∃ R : Int, (if totAt L m < L.length then ((totAt L m : Nat) : Int) else -1) = R := ⟨_, rfl⟩
  rw [eR]
  have HR := Lib.hid eR
  have HT := Lib.hid hT
  have HN := Lib.hid hb
  clear hT hb eR
  go_enter Tryd.func19, Tryd.ntmps19
  go_wp2_with fail
  go_loopw [8] (fun i wr => Below w.heap.size w wr ∧ ∃ k : Nat, k ≤ L.length ∧ i = .int .i64 k ∧ ∀ j (hj : j < L.length), j < k → (fun x : Tot => decide (x.1 = m)) L[j] = false) (fun i _ => L.length - (intOf i).toNat)
  case atStart => exact ⟨Below.refl _ _, 0, by omega, rfl, fun j hj h => by omega⟩
  case round =>
    obtain ⟨hbw, k, hk, rfl, he⟩ := hrel
    by_cases hlt : k < L.length
    · have hlt' : (k : Int) < L.length := by omega
      obtain ⟨b, o, rfl, q0, q1, q2, q3, q4, q5⟩ := (HT.out.below hbw).get k hlt
      obtain ⟨x, ex⟩ : ∃ x, L[k] = x := ⟨_, rfl⟩
      rw [ex] at q0 q1 q2 q3 q4 q5
      obtain ⟨pb, hpb⟩ : ∃ pb, decide (x.1 = m) = pb := ⟨_, rfl⟩
      have HC := Lib.hid (clos_tot (hbw.keptCell HN.out) x)
      rw [hpb] at HC
      have hpk : (fun x : Tot => decide (x.1 = m)) L[k] = pb := by rw [ex]; exact hpb
      have HB := Lib.hid hbw
      have HLT := Lib.hid hlt
      cases pb with
      | true =>
        have HI := Lib.hid (show totAt L m = k from (List.findIdx_eq hlt).2 ⟨hpk, fun j hj => he j (by omega) hj⟩)
        obtain ⟨x0, x1, x2, x3, x4, x5⟩ := x
        clear he hpk hpb hbw ex
        go_wp2_with fail
        refine HC.out.mono ?_
        rintro e w2 ⟨rfl, b2⟩
        have HB2 := Lib.hid (HB.out.trans (b2.mono HB.out.size))
        clear b2
        go_wp2_with fail
        go_ret
        exact ⟨by rw [← HR.out, HI.out, if_pos HLT.out]; rfl, HB2.out⟩
      | false =>
        have HE2 := Lib.hid (show ∀ j (hj : j < L.length), j < k + 1 → (fun x : Tot => decide (x.1 = m)) L[j] = false from fun j hj hjk => by
          by_cases e : j = k
          · subst e; exact hpk
          · exact he j hj (by omega))
        obtain ⟨x0, x1, x2, x3, x4, x5⟩ := x
        clear he hpk hpb hbw ex
        go_wp2_with fail
        refine HC.out.mono ?_
        rintro e w2 ⟨rfl, b2⟩
        have HB2 := Lib.hid (HB.out.trans (b2.mono HB.out.size))
        clear b2
        go_wp2_with fail
        go_roundw
        case rel => exact ⟨HB2.out, k + 1, by omega, by go_num, HE2.out⟩
        case measure => simp [intOf]; omega
    · obtain rfl : k = L.length := by omega
      have hlt' : ¬ (L.length : Int) < L.length := by omega
      have HI := Lib.hid (show ¬ totAt L m < L.length from fun hlt2 => by
        have h1 := List.findIdx_getElem (p := fun x : Tot => decide (x.1 = m)) (xs := L) (w := hlt2)
        exact Bool.false_ne_true ((he _ hlt2 hlt2).symm.trans h1))
      have HB := Lib.hid hbw
      clear he hbw
      go_wp2_with fail
      go_ret
      exact ⟨by rw [← HR.out, if_neg HI.out]; rfl, HB.out⟩
end Go.Proofs.YtjndfmpicnkplaaDoor.msgw
