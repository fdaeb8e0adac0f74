/- Layer 5: where a field goes: the closures of Set, slices.IndexFunc. Conditions: as each theorem says. -/
import Derived.Test.YtjndfmpicnkplaaDoorMsgB
namespace Go.Proofs.YtjndfmpicnkplaaDoor.msgw
open Go.RowKit
open Go.Proofs.YtjndfmpicnkplaaDoor.msgp
open Go.Proofs.YtjndfmpicnkplaaDoor.buf
/-- The closure that asks for a number. -/
theorem clos_is {w : World} {bn : Nat} {no : Int} (hb : w.cell? ⟨bn, 0, none⟩ = some (.int .i64 no)) (x : Fld) :
    Calls Tryd.prog 23 #[.agg #[.int .i64 x.1, .string x.2], .pointer (some ⟨bn, 0, none⟩)] w fun e w' => e = .returned (.bool (decide (x.1 = no))) ∧ Below w.heap.size w w' := by
  obtain ⟨n, s⟩ := x
  have hb2 := ((Below.refl w.heap.size w).alloc (Nat.le_refl _) (.cells #[.int .i64 n, .string s] 45)).keptCell hb
  have HB := Lib.hid ((Below.refl w.heap.size w).alloc (Nat.le_refl _) (.cells #[.int .i64 n, .string s] 45))
  clear hb
  go_enter Tryd.func23, Tryd.ntmps23
  go_wp2_with fail
  go_ret
  exact ⟨by first | rfl | simp, HB.out⟩
theorem index_is {w : World} {bn : Nat} {no : Int} (hb : w.cell? ⟨bn, 0, none⟩ = some (.int .i64 no)) {v : Value} {F : Flds} (h : FsAt w v F) :
    Calls Tryd.prog 24 #[v, .func (.func 23) #[] #[.pointer (some ⟨bn, 0, none⟩)]] w fun e w' => e = .returned (.int .i64 (if F.findIdx (fun x => decide (x.1 = no)) < F.length then (F.findIdx (fun x => decide (x.1 = no)) : Nat) else -1)) ∧ Below w.heap.size w w' := by
  obtain ⟨p, c, rfl⟩ := h.shape
  have hl := h.1
  simp only [maxLen] at hl
  obtain ⟨R, eR⟩ : ∃ R : Int, (if F.findIdx (fun x => decide (x.1 = no)) < F.length then ((F.findIdx (fun x => decide (x.1 = no)) : Nat) : Int) else -1) = R := ⟨_, rfl⟩
  rw [eR]
  have HR := Lib.hid eR
  have H := Lib.hid h
  have HN := Lib.hid hb
  clear h hb eR
  go_enter Tryd.func24, Tryd.ntmps24
  go_wp2_with fail
  go_loopw [8] (fun i wr => Below w.heap.size w wr ∧ ∃ k : Nat, k ≤ F.length ∧ i = .int .i64 k ∧ ∀ j (hj : j < F.length), j < k → (fun x : Fld => decide (x.1 = no)) F[j] = false) (fun i _ => F.length - (intOf i).toNat)
  case atStart => exact ⟨Below.refl _ _, 0, by omega, rfl, fun j hj h => by omega⟩
  case round =>
    obtain ⟨hbw, k, hk, rfl, he⟩ := hrel
    by_cases hlt : k < F.length
    · have hlt' : (k : Int) < F.length := by omega
      obtain ⟨b, o, rfl, q0, q1⟩ := (H.out.below hbw).get k hlt
      obtain ⟨x, ex⟩ : ∃ x, F[k] = x := ⟨_, rfl⟩
      rw [ex] at q0 q1
      obtain ⟨pb, hpb⟩ : ∃ pb, (decide (x.1 = no)) = pb := ⟨_, rfl⟩
      have HC := Lib.hid (clos_is (hbw.keptCell HN.out) x)
      rw [hpb] at HC
      have hpk : (fun x : Fld => decide (x.1 = no)) F[k] = pb := by rw [ex]; exact hpb
      have HB := Lib.hid hbw
      have HE := Lib.hid he
      have HLT := Lib.hid hlt
      cases pb with
      | true =>
        have HI := Lib.hid (show F.findIdx (fun x => decide (x.1 = no)) = k from (List.findIdx_eq hlt).2 ⟨hpk, fun j hj => he j (by omega) hj⟩)
        obtain ⟨n, s⟩ := x
        clear he hpk hpb hbw ex
        go_wp2_with fail
        refine HC.out.mono ?_
        rintro e w2 ⟨rfl, b2⟩
        have HB2 := Lib.hid (HB.out.trans (b2.mono HB.out.size))
        clear b2
        go_wp2_with fail
        go_ret
        exact ⟨by rw [← HR.out, HI.out, if_pos HLT.out]; rfl, HB2.out⟩
      | false =>
        have HE2 := Lib.hid (show ∀ j (hj : j < F.length), j < k + 1 → (fun x : Fld => decide (x.1 = no)) F[j] = false from fun j hj hjk => by
          by_cases e : j = k
          · subst e; exact hpk
          · exact he j hj (by omega))
        obtain ⟨n, s⟩ := x
        clear he hpk hpb hbw ex
        go_wp2_with fail
        refine HC.out.mono ?_
        rintro e w2 ⟨rfl, b2⟩
        have HB2 := Lib.hid (HB.out.trans (b2.mono HB.out.size))
        clear b2
        go_wp2_with fail
        go_roundw
        case rel => exact ⟨HB2.out, k + 1, by omega, by go_num, HE2.out⟩
        case measure => simp [intOf]; omega
    · obtain rfl : k = F.length := by omega
      have hlt' : ¬ (F.length : Int) < F.length := by omega
      have HI := Lib.hid (show ¬ F.findIdx (fun x => decide (x.1 = no)) < F.length from fun hlt2 => by
        have h1 := List.findIdx_getElem (w := hlt2)
        exact Bool.false_ne_true ((he _ hlt2 hlt2).symm.trans h1))
      have HB := Lib.hid hbw
      clear he hbw
      go_wp2_with fail
      go_ret
      exact ⟨by rw [← HR.out, if_neg HI.out]; rfl, HB.out⟩
/-- The closure that asks for a greater number. -/
theorem clos_past {w : World} {bn : Nat} {no : Int} (hb : w.cell? ⟨bn, 0, none⟩ = some (.int .i64 no)) (x : Fld) :
    Calls Tryd.prog 25 #[.agg #[.int .i64 x.1, .string x.2], .pointer (some ⟨bn, 0, none⟩)] w fun e w' => e = .returned (.bool (decide (no < x.1))) ∧ Below w.heap.size w w' := by
  obtain ⟨n, s⟩ := x
  have hb2 := ((Below.refl w.heap.size w).alloc (Nat.le_refl _) (.cells #[.int .i64 n, .string s] 45)).keptCell hb
  have HB := Lib.hid ((Below.refl w.heap.size w).alloc (Nat.le_refl _) (.cells #[.int .i64 n, .string s] 45))
  clear hb
  go_enter Tryd.func25, Tryd.ntmps25
  go_wp2_with fail
  go_ret
  exact ⟨by first | rfl | simp, HB.out⟩
theorem index_past {w : World} {bn : Nat} {no : Int} (hb : w.cell? ⟨bn, 0, none⟩ = some (.int .i64 no)) {v : Value} {F : Flds} (h : FsAt w v F) :
    Calls Tryd.prog 24 #[v, .func (.func 25) #[] #[.pointer (some ⟨bn, 0, none⟩)]] w fun e w' => e = .returned (.int .i64 (if F.findIdx (fun x => decide (no < x.1)) < F.length then (F.findIdx (fun x => decide (no < x.1)) : Nat) else -1)) ∧ Below w.heap.size w w' := by
  obtain ⟨p, c, rfl⟩ := h.shape
  have hl := h.1
  simp only [maxLen] at hl
  obtain ⟨R, eR⟩ : ∃ R : Int, (if F.findIdx (fun x => decide (no < x.1)) < F.length then ((F.findIdx (fun x => decide (no < x.1)) : Nat) : Int) else -1) = R := ⟨_, rfl⟩
  rw [eR]
  have HR := Lib.hid eR
  have H := Lib.hid h
  have HN := Lib.hid hb
  clear h hb eR
  go_enter Tryd.func24, Tryd.ntmps24
  go_wp2_with fail
  go_loopw [8] (fun i wr => Below w.heap.size w wr ∧ ∃ k : Nat, k ≤ F.length ∧ i = .int .i64 k ∧ ∀ j (hj : j < F.length), j < k → (fun x : Fld => decide (no < x.1)) F[j] = false) (fun i _ => F.length - (intOf i).toNat)
  case atStart => exact ⟨Below.refl _ _, 0, by omega, rfl, fun j hj h => by omega⟩
  case round =>
    obtain ⟨hbw, k, hk, rfl, he⟩ := hrel
    by_cases hlt : k < F.length
    · have hlt' : (k : Int) < F.length := by omega
      obtain ⟨b, o, rfl, q0, q1⟩ := (H.out.below hbw).get k hlt
      obtain ⟨x, ex⟩ : ∃ x, F[k] = x := ⟨_, rfl⟩
      rw [ex] at q0 q1
      obtain ⟨pb, hpb⟩ : ∃ pb, (decide (no < x.1)) = pb := ⟨_, rfl⟩
      have HC := Lib.hid (clos_past (hbw.keptCell HN.out) x)
      rw [hpb] at HC
      have hpk : (fun x : Fld => decide (no < x.1)) F[k] = pb := by rw [ex]; exact hpb
      have HB := Lib.hid hbw
      have HE := Lib.hid he
      have HLT := Lib.hid hlt
      cases pb with
      | true =>
        have HI := Lib.hid (show F.findIdx (fun x => decide (no < x.1)) = k from (List.findIdx_eq hlt).2 ⟨hpk, fun j hj => he j (by omega) hj⟩)
        obtain ⟨n, s⟩ := x
        clear he hpk hpb hbw ex
        go_wp2_with fail
        refine HC.out.mono ?_
        rintro e w2 ⟨rfl, b2⟩
        have HB2 := Lib.hid (HB.out.trans (b2.mono HB.out.size))
        clear b2
        go_wp2_with fail
        go_ret
        exact ⟨by rw [← HR.out, HI.out, if_pos HLT.out]; rfl, HB2.out⟩
      | false =>
        have HE2 := Lib.hid (show ∀ j (hj : j < F.length), j < k + 1 → (fun x : Fld => decide (no < x.1)) F[j] = false from fun j hj hjk => by
          by_cases e : j = k
          · subst e; exact hpk
          · exact he j hj (by omega))
        obtain ⟨n, s⟩ := x
        clear he hpk hpb hbw ex
        go_wp2_with fail
        refine HC.out.mono ?_
        rintro e w2 ⟨rfl, b2⟩
        have HB2 := Lib.hid (HB.out.trans (b2.mono HB.out.size))
        clear b2
        go_wp2_with fail
        go_roundw
        case rel => exact ⟨HB2.out, k + 1, by omega, by go_num, HE2.out⟩
        case measure => simp [intOf]; omega
    · obtain rfl : k = F.length := by omega
      have hlt' : ¬ (F.length : Int) < F.length := by omega
      have HI := Lib.hid (show ¬ F.findIdx (fun x => decide (no < x.1)) < F.length from fun hlt2 => by
        have h1 := List.findIdx_getElem (w := hlt2)
        exact Bool.false_ne_true ((he _ hlt2 hlt2).symm.trans h1))
      have HB := Lib.hid hbw
      clear he hbw
      go_wp2_with fail
      go_ret
      exact ⟨by rw [← HR.out, if_neg HI.out]; rfl, HB.out⟩
end Go.Proofs.YtjndfmpicnkplaaDoor.msgw
