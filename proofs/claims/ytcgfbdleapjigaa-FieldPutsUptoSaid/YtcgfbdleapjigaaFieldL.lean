/- Walks of layer 4: Amount. Conditions: as the theorem says. -/
import Derived.Test.YtcgfbdleapjigaaFieldK
import Derived.Test.YtcgfbdleapjigaaFieldPlain4
namespace Go.Proofs.Ytcgfbdleapjigaa.fieldw
open Go.RowKit Go.Proofs.Ytcgfbdleapjigaa.fieldp Go.Proofs.YtcgfbdleapjigaaW.PrintWords Go.Proofs.YtcgfbdleapjigaaW.PrintLast

theorem take_dig {s : ByteArray} (h : s.data.toList.all (inRow tenL) = true) (k : Nat) : ∀ c ∈ s.data.toList.take k, isDig c :=
  fun c hc => row_dig (List.all_eq_true.1 h c (List.mem_of_mem_take hc))
set_option maxHeartbeats 2000000 in
set_option maxRecDepth 100000 in
theorem amount_any (s : ByteArray) (w : World) (hs : s.size ≤ 100000000) :
    Calls Try.prog 19 #[.string s] w fun e w' => e = .returned (.tuple #[.int .i64 (amountR s.data.toList).1, .int .i64 (amountR s.data.toList).2]) ∧ w = w' := by
  have HO := Lib.hid (fun w => of_any s ⟨#[48, 49, 50, 51, 52, 53, 54, 55, 56, 57]⟩ s.size w (by omega))
  by_cases h0 : s.data.toList = []
  · have he : s.toList = [] := by rw [ByteArray.toList_eq, h0]
    have he1 : s.toList.isEmpty = true := by rw [he]; rfl
    have e : amountR s.data.toList = (0, 41) := by simp [amountR, h0]
    rw [e]
    clear e h0
    go_enter Try.func19, Try.ntmps19
    go_wp2_with fail
    go_ret2
    exact ⟨rfl, rfl⟩
  · have he : (s.toList = []) = False := by rw [ByteArray.toList_eq]; simpa using h0
    have he1 : s.toList.isEmpty = false := by
      rw [ByteArray.toList_eq]
      cases h : s.data.toList with
      | nil => exact absurd h h0
      | cons => rfl
    by_cases h1 : 18 < s.size
    · have e : amountR s.data.toList = (0, 41) := by
        unfold amountR
        rw [if_neg]
        rintro ⟨_, h, _⟩
        rw [size_list] at h
        omega
      rw [e]
      clear e h0
      go_enter Try.func19, Try.ntmps19
      go_wp2_with fail
      go_ret2
      exact ⟨rfl, rfl⟩
    · have hd18 : decide (18 < (s.size : Int)) = false := by simp; omega
      cases ho : ofB s.data.toList tenL s.size with
      | false =>
        have e : amountR s.data.toList = (0, 41) := by
          unfold amountR
          rw [if_neg]
          rintro ⟨_, _, h⟩
          rw [ofB, h] at ho
          simp at ho
        rw [e]
        have HO' := HO.out
        rw [show (⟨#[48, 49, 50, 51, 52, 53, 54, 55, 56, 57]⟩ : ByteArray).data.toList = tenL from rfl, ho] at HO'
        have HO2 := Lib.hid HO'
        clear e h0 ho HO'
        go_enter Try.func19, Try.ntmps19
        go_wp2_with fail
        refine (HO2.out _).mono ?_
        rintro e w1 ⟨rfl, rfl⟩
        go_wp2_with fail
        go_ret2
        exact ⟨rfl, rfl⟩
      | true =>
        obtain ⟨hall, -⟩ := ofB_all ho
        have e : amountR s.data.toList = (numL s.data.toList, 0) := by
          unfold amountR
          rw [if_pos ⟨h0, by rw [size_list]; omega, hall⟩]
        rw [e]
        have HALL := Lib.hid hall
        have HO' := HO.out
        rw [show (⟨#[48, 49, 50, 51, 52, 53, 54, 55, 56, 57]⟩ : ByteArray).data.toList = tenL from rfl, ho] at HO'
        have HO2 := Lib.hid HO'
        have hs18 : s.size ≤ 18 := by omega
        clear e h0 ho HO' hall
        go_enter Try.func19, Try.ntmps19
        go_wp2_with fail
        refine (HO2.out _).mono ?_
        rintro e w1 ⟨rfl, rfl⟩
        go_wp2_with fail
        go_loop [4, 22] (fun n i => ∃ k : Nat, k ≤ s.size ∧ i = .int .i64 k ∧ n = .int .i64 (numL (s.data.toList.take k))) (fun _ i => s.size - (intOf i).toNat)
        case atStart => exact ⟨0, Nat.zero_le _, rfl, rfl⟩
        case round =>
          obtain ⟨k, hk, rfl, rfl⟩ := hrel
          by_cases hlt : k < s.size
          · have hs1 : numL (s.data.toList.take (k + 1)) = 10 * numL (s.data.toList.take k) + ((s[k].toNat : Int) - 48) := by rw [take_snoc s k hlt, numL_snoc]
            have hdg : isDig s[k] := take_dig HALL.out (k + 1) _ (by rw [take_snoc s k hlt]; simp)
            have hr := numL_range k _ (by rw [List.length_take, size_list]; omega) (take_dig HALL.out k)
            have hp : (10 : Int) ^ k ≤ 10 ^ 17 := by
              have : (10 : Nat) ^ k ≤ 10 ^ 17 := Nat.pow_le_pow_right (by decide) (by omega)
              exact_mod_cast this
            generalize numL (s.data.toList.take k) = m at hs1 hr ⊢
            have hm0 : 0 ≤ m := hr.1
            have hm1 : m < 100000000000000000 := by have := hr.2; omega
            unfold isDig at hdg
            have hw1 : IntKind.i64.wrap (10 * m) = 10 * m := IntWalk.i64_in _ (by omega)
            have hw2 : IntKind.u8.wrap ((s[k].toNat : Int) - 48) = (s[k].toNat : Int) - 48 := IntWalk.u8_in _ (by omega)
            have hw3 : IntKind.i64.wrap ((s[k].toNat : Int) - 48) = (s[k].toNat : Int) - 48 := IntWalk.i64_in _ (by omega)
            have hw4 : IntKind.i64.wrap (10 * m + ((s[k].toNat : Int) - 48)) = 10 * m + ((s[k].toNat : Int) - 48) := IntWalk.i64_in _ (by omega)
            have HS1 := Lib.hid hs1
            have HM := Lib.hid hm1
            clear hs1 hr hp hm1
            go_wp2_with fail
            exact ⟨⟨k + 1, by omega, by go_num, by rw [HS1.out]⟩, by simp [intOf]; omega⟩
          · have hke : s.data.toList.take k = s.data.toList := List.take_of_length_le (by rw [size_list]; omega)
            rw [hke]
            clear hke
            go_wp2_with fail
            go_ret2
            exact ⟨rfl, rfl⟩
end Go.Proofs.Ytcgfbdleapjigaa.fieldw
