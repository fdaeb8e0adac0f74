/- Walks of layer 4: When. Conditions: as the theorem says. -/
import Derived.Test.YtcgfbdleapjigaaFieldL
namespace Go.Proofs.Ytcgfbdleapjigaa.fieldw
open Go.RowKit Go.Proofs.Ytcgfbdleapjigaa.fieldp Go.Proofs.YtcgfbdleapjigaaW.PrintWords Go.Proofs.YtcgfbdleapjigaaW.PrintLast

def five (v : Nat → Int) (k : Nat) : Array Value := #[.int .i64 (if 0 < k then v 0 else 0), .int .i64 (if 1 < k then v 1 else 0), .int .i64 (if 2 < k then v 2 else 0), .int .i64 (if 3 < k then v 3 else 0), .int .i64 (if 4 < k then v 4 else 0)]
theorem five_cell {w : World} {b : Nat} {v : Nat → Int} {k : Nat} {T : TypeId} (h : w.heap[b]? = some (.cells (five v k) T (0, 0))) (j : Nat) (hj : j < 5) : w.cell? ⟨b, j, none⟩ = some (.int .i64 (if j < k then v j else 0)) := by
  rw [blk_cell h j]
  match j, hj with
  | 0, _ => rfl
  | 1, _ => rfl
  | 2, _ => rfl
  | 3, _ => rfl
  | 4, _ => rfl
theorem five_set (v : Nat → Int) (k : Nat) (hk : k < 5) : (five v k).setIfInBounds k (.int .i64 (v k)) = five v (k + 1) := by
  match k, hk with
  | 0, _ => rfl
  | 1, _ => rfl
  | 2, _ => rfl
  | 3, _ => rfl
  | 4, _ => rfl
theorem day_at (a : Int) (j : Nat) (hj : a - 1 = (j : Int)) (h12 : j < 12) : ∀ h : j < (⟨#[31, 29, 31, 30, 31, 30, 31, 31, 30, 31, 30, 31]⟩ : ByteArray).size, wrap64 ((((⟨#[31, 29, 31, 30, 31, 30, 31, 31, 30, 31, 30, 31]⟩ : ByteArray)[j]'h).toNat : Nat) : Int) = daysL a := by
  have : ∀ j : Fin 12, ∀ h : j.1 < (⟨#[31, 29, 31, 30, 31, 30, 31, 31, 30, 31, 30, 31]⟩ : ByteArray).size, ((((⟨#[31, 29, 31, 30, 31, 30, 31, 31, 30, 31, 30, 31]⟩ : ByteArray)[j.1]'h).toNat : Nat) : Int) = ([31, 29, 31, 30, 31, 30, 31, 31, 30, 31, 30, 31] : List Int).getD j.1 0 := by decide
  intro h
  have hb := ((⟨#[31, 29, 31, 30, 31, 30, 31, 31, 30, 31, 30, 31]⟩ : ByteArray)[j]'h).toNat_lt
  rw [IntWalk.wrap64_in _ (by omega), this ⟨j, h12⟩ h]
  unfold daysL
  rw [hj]
  rfl
set_option maxHeartbeats 2000000 in
set_option maxRecDepth 100000 in
theorem when_any (s : ByteArray) (w : World) (hs : s.size ≤ 100000000) :
    Calls Try.prog 23 #[.string s] w fun e w' => e = .returned (.bool (whenR s.data.toList)) ∧ Below w.heap.size w w' := by
  have HO := Lib.hid (fun w => of_any s ⟨#[48, 49, 50, 51, 52, 53, 54, 55, 56, 57]⟩ 10 w (by omega))
  have HF := Lib.hid (show whenR s.data.toList = (ofB s.data.toList tenL 10 && decide (1 ≤ pairN s.data.toList 0 ∧ pairN s.data.toList 0 ≤ 12 ∧ 1 ≤ pairN s.data.toList 1 ∧ pairN s.data.toList 1 ≤ daysL (pairN s.data.toList 0) ∧ pairN s.data.toList 2 < 24 ∧ pairN s.data.toList 3 < 60 ∧ pairN s.data.toList 4 < 60)) from rfl)
  generalize whenR s.data.toList = R at HF ⊢
  cases ho : ofB s.data.toList tenL 10 with
  | false =>
    have HO' := HO.out
    rw [show (⟨#[48, 49, 50, 51, 52, 53, 54, 55, 56, 57]⟩ : ByteArray).data.toList = tenL from rfl, ho] at HO'
    have HO2 := Lib.hid HO'
    rw [ho, Bool.false_and] at HF
    have hR := HF.out
    subst hR
    clear ho HO'
    go_enter Try.func23, Try.ntmps23
    go_wp2_with fail
    refine (HO2.out _).mono ?_
    rintro e w1 ⟨rfl, rfl⟩
    go_wp2_with fail
    go_ret
    exact ⟨rfl, Below.refl _ _⟩
  | true =>
    obtain ⟨hall, hl10⟩ := ofB_all ho
    rw [size_list] at hl10
    have hs10 : s.size = 10 := by omega
    have hA : ∀ (k : Nat) (w : World), k < 5 → Calls Try.prog 19 #[.string (s.extract (2 * k) (2 * k + 2))] w fun e w' => e = .returned (.tuple #[.int .i64 (pairN s.data.toList k), .int .i64 0]) ∧ w = w' := by
      intro k w hk
      have hd : (s.extract (2 * k) (2 * k + 2)).data.toList = (s.data.toList.drop (2 * k)).take 2 := by
        simp [ByteArray.data_extract]
      have hsz : (s.extract (2 * k) (2 * k + 2)).size = 2 := by rw [← size_list, hd, List.length_take, List.length_drop, size_list]; omega
      have := amount_any (s.extract (2 * k) (2 * k + 2)) w (by omega)
      have ha : amountR (s.extract (2 * k) (2 * k + 2)).data.toList = (pairN s.data.toList k, 0) := by
        unfold amountR
        rw [if_pos]
        · rw [hd]; rfl
        · refine ⟨?_, by rw [size_list]; omega, ?_⟩
          · intro e
            rw [← size_list, e] at hsz
            cases hsz
          · rw [hd]
            exact List.all_eq_true.2 fun c hc => List.all_eq_true.1 hall c (List.mem_of_mem_drop (List.mem_of_mem_take hc))
      rw [ha] at this
      exact this
    have HA := Lib.hid hA
    have HO' := HO.out
    rw [show (⟨#[48, 49, 50, 51, 52, 53, 54, 55, 56, 57]⟩ : ByteArray).data.toList = tenL from rfl, ho] at HO'
    have HO2 := Lib.hid HO'
    rw [ho, Bool.true_and] at HF
    generalize pairN s.data.toList = v at HA HF
    have hs10' : 10 ≤ s.size := by omega
    clear hl10 ho hall hA HO' hs10
    go_enter Try.func23, Try.ntmps23
    go_wp2_with fail
    refine (HO2.out _).mono ?_
    rintro e w1 ⟨rfl, rfl⟩
    go_wp2_with fail
    go_loopw [8] (fun i wr => ∃ k : Nat, k ≤ 5 ∧ i = .int .i64 k ∧ wr.heap[w.heap.size]? = some (.cells (five v k) 65 (0, 0)) ∧ Below w.heap.size w wr) (fun i _ => 5 - (intOf i).toNat)
    case atStart => exact ⟨0, by omega, rfl, by show (w.heap.push _)[w.heap.size]? = _; simp [five], (Below.refl _ _).alloc (Nat.le_refl _) _⟩
    case round =>
      obtain ⟨k, hk, rfl, hblk, hB⟩ := hrel
      have HBK := Aside0.mk hblk
      have HB := Aside0.mk hB
      by_cases hlt : k < 5
      · have hc := five_cell hblk k hlt
        have hf : wr.frozen? ⟨w.heap.size, k, none⟩ = false := blk_frozen hblk k
        have h1 : 2 * k + 2 ≤ s.size := by omega
        clear hblk hB
        go_wp2_with fail
        refine (HA.out k _ hlt).mono ?_
        rintro e w2 ⟨rfl, rfl⟩
        go_wp2_with fail
        exact ⟨⟨k + 1, by omega, by go_num, by rw [← five_set v k hlt]; exact blk_set HBK.out k _, HB.out.setCell (Nat.le_refl _) _⟩, by simp [intOf]; omega⟩
      · obtain rfl : k = 5 := by omega
        have c0 : wr.cell? ⟨w.heap.size, 0, none⟩ = some (.int .i64 (v 0)) := five_cell hblk 0 (by decide)
        have c1 : wr.cell? ⟨w.heap.size, 1, none⟩ = some (.int .i64 (v 1)) := five_cell hblk 1 (by decide)
        have c2 : wr.cell? ⟨w.heap.size, 2, none⟩ = some (.int .i64 (v 2)) := five_cell hblk 2 (by decide)
        have c3 : wr.cell? ⟨w.heap.size, 3, none⟩ = some (.int .i64 (v 3)) := five_cell hblk 3 (by decide)
        have c4 : wr.cell? ⟨w.heap.size, 4, none⟩ = some (.int .i64 (v 4)) := five_cell hblk 4 (by decide)
        clear hblk hB HBK HA
        generalize v 0 = a0 at *
        generalize v 1 = a1 at *
        generalize v 2 = a2 at *
        generalize v 3 = a3 at *
        generalize v 4 = a4 at *
        by_cases g0 : 1 ≤ a0
        · by_cases g1 : a0 ≤ 12
          · by_cases g2 : 1 ≤ a1
            · obtain ⟨j, hj, hj12⟩ : ∃ j : Nat, a0 - 1 = (j : Int) ∧ j < 12 := ⟨(a0 - 1).toNat, by omega, by omega⟩
              have gw : IntKind.i64.wrap (j : Int) = (j : Int) := IntWalk.i64_in _ (by omega)
              have gw2 : IntKind.i64.wrap (a0 - 1) = (j : Int) := by rw [hj]; exact gw
              have hday := day_at a0 j hj hj12
              have e0 : decide (1 ≤ a0) = true := decide_eq_true g0
              have e1 : decide (a0 ≤ 12) = true := decide_eq_true g1
              have e2 : decide (1 ≤ a1) = true := decide_eq_true g2
              have hj0 : (0 : Int) ≤ (j : Int) := by omega
              have hj1 : (j : Int) < 12 := by omega
              generalize daysL a0 = D at hday HF
              by_cases g3 : a1 ≤ D
              · have e3 : decide (a1 ≤ D) = true := decide_eq_true g3
                by_cases g4 : a2 < 24
                · have e4 : decide (a2 < 24) = true := decide_eq_true g4
                  by_cases g5 : a3 < 60
                  · have e5 : decide (a3 < 60) = true := decide_eq_true g5
                    by_cases g6 : a4 < 60
                    · have e6 : decide (a4 < 60) = true := decide_eq_true g6
                      have hR : R = true := by rw [HF.out]; simp [g0, g1, g2, g3, g4, g5, g6]
                      subst hR
                      go_wp2_with fail
                      go_quiet (fail)
                      go_wp2_with fail
                      go_ret
                      exact ⟨rfl, pw_below_drewN HB.out _⟩
                    · have e6 : decide (a4 < 60) = false := decide_eq_false g6
                      have hR : R = false := by rw [HF.out]; simp [g6]
                      subst hR
                      go_wp2_with fail
                      go_quiet (fail)
                      go_wp2_with fail
                      go_ret
                      exact ⟨rfl, pw_below_drewN HB.out _⟩
                  · have e5 : decide (a3 < 60) = false := decide_eq_false g5
                    have hR : R = false := by rw [HF.out]; simp [g5]
                    subst hR
                    go_wp2_with fail
                    go_quiet (fail)
                    go_wp2_with fail
                    go_ret
                    exact ⟨rfl, pw_below_drewN HB.out _⟩
                · have e4 : decide (a2 < 24) = false := decide_eq_false g4
                  have hR : R = false := by rw [HF.out]; simp [g4]
                  subst hR
                  go_wp2_with fail
                  go_quiet (fail)
                  go_wp2_with fail
                  go_ret
                  exact ⟨rfl, pw_below_drewN HB.out _⟩
              · have e3 : decide (a1 ≤ D) = false := decide_eq_false g3
                have hR : R = false := by rw [HF.out]; simp [g3]
                subst hR
                go_wp2_with fail
                go_quiet (fail)
                go_wp2_with fail
                go_ret
                exact ⟨rfl, pw_below_drewN HB.out _⟩
            · have hR : R = false := by rw [HF.out]; simp [g2]
              have d2 : decide (1 ≤ a1) = false := decide_eq_false g2
              subst hR
              go_wp2_with fail
              go_quiet (fail)
              go_wp2_with fail
              go_ret
              exact ⟨rfl, pw_below_drewN HB.out _⟩
          · have hR : R = false := by rw [HF.out]; simp [g1]
            have d1 : decide (a0 ≤ 12) = false := decide_eq_false g1
            subst hR
            go_wp2_with fail
            go_quiet (fail)
            go_wp2_with fail
            go_ret
            exact ⟨rfl, pw_below_drewN HB.out _⟩
        · have hR : R = false := by rw [HF.out]; simp [g0]
          have d0 : decide (1 ≤ a0) = false := decide_eq_false g0
          subst hR
          go_wp2_with fail
          go_quiet (fail)
          go_wp2_with fail
          go_ret
          exact ⟨rfl, pw_below_drewN HB.out _⟩
end Go.Proofs.Ytcgfbdleapjigaa.fieldw
