/- What the reference reads of a field: the plain law, and its contract. Conditions: as each theorem says. -/
import Derived.Test.YtcgfbdleapjigaaPFieldTakesx5
import Derived.Test.YtcgfbdleapjigaaFieldLaw
namespace Go.Proofs.Ytcgfbdleapjigaa.reft
open Go.RowKit Go.Proofs.YtcgfbdleapjigaaW.PrintWords Go.Proofs.YtcgfbdleapjigaaW.PrintLast Go.Proofs.Ytcgfbdleapjigaa.PFieldTakes Go.Proofs.Ytcgfbdleapjigaa.fieldp Go.Proofs.Ytcgfbdleapjigaa.fieldw Go.Proofs.Ytcgfbdleapjigaa.fieldl

/-! What the reference says of a text. -/
theorem drop_bt (x : ByteArray) (i : Int) (h0 : 0 ≤ i) (h1 : i < (x.size : Int)) : ∃ c : UInt8, x.data.toList.drop i.toNat = c :: x.data.toList.drop (i + 1).toNat ∧ bt x i = (c.toNat : Int) := by
  have hlt : i.toNat < x.size := by omega
  refine ⟨x[i.toNat], ?_, (bt_at x i hlt).symm⟩
  rw [show (i + 1).toNat = i.toNat + 1 by omega]
  exact List.drop_eq_getElem_cons (by rw [size_list]; exact hlt)
set_option maxRecDepth 100000 in
theorem row_ten (c : UInt8) : inRow tenL c = decide (48 ≤ (c.toNat : Int) ∧ (c.toNat : Int) ≤ 57) := by
  have : ∀ i : Fin 256, inRow tenL (UInt8.ofNat i.1) = decide (48 ≤ (i.1 : Int) ∧ (i.1 : Int) ≤ 57) := by decide
  have h := this ⟨c.toNat, c.toNat_lt⟩
  rw [UInt8.ofNat_toNat] at h
  exact h

theorem ref_digit (c : UInt8) : groatref04_digit.f (c.toNat : Int) = some (inRow tenL c) := by
  rw [row_ten]
  unfold groatref04_digit.f
  by_cases h : 48 ≤ (c.toNat : Int)
  · rw [if_pos h]
    by_cases h2 : (c.toNat : Int) ≤ 57
    · simp [h, h2]
    · simp [h2]
  · rw [if_neg h]
    simp [h]

theorem ref_all_loop (x : ByteArray) (hx : x.size ≤ 1048577) : ∀ (d k : Nat) (i : Int), 0 ≤ i → (x.size : Int) - i = d → d < k → groatref04_all.l0 k x i = some ((x.data.toList.drop i.toNat).all (inRow tenL))
  | 0, k, i, h0, hd, hk => by
    obtain ⟨k, rfl⟩ : ∃ m, k = m + 1 := ⟨k - 1, by omega⟩
    rw [groatref04_all.l0, if_neg (by omega), List.drop_of_length_le (by rw [size_list]; omega)]
    rfl
  | d + 1, k, i, h0, hd, hk => by
    obtain ⟨k, rfl⟩ : ∃ m, k = m + 1 := ⟨k - 1, by omega⟩
    have hlt : i < (x.size : Int) := by omega
    obtain ⟨ch, hc, hb⟩ := drop_bt x i h0 hlt
    rw [groatref04_all.l0, if_pos hlt, if_pos h0, hb, ref_digit, hc, List.all_cons]
    simp only [Option.bind_some]
    rw [show wrap64 (i + 1) = i + 1 from IntWalk.wrap64_in _ ⟨by omega, by omega⟩]
    cases h : inRow tenL ch with
    | false => rfl
    | true =>
      rw [if_pos rfl, ref_all_loop x hx d k (i + 1) (by omega) (by omega) (by omega)]
      simp
theorem ref_all (x : ByteArray) (hx : x.size ≤ 1048577) (k : Nat) (hk : x.size < k) : groatref04_all.f k x = some (x.data.toList.all (inRow tenL)) :=
  ref_all_loop x hx x.size k 0 (by decide) (by omega) hk

set_option maxRecDepth 100000 in
theorem row_signs (c : UInt8) : inRow signsL c = (decide (48 ≤ (c.toNat : Int) ∧ (c.toNat : Int) ≤ 57) || decide (65 ≤ (c.toNat : Int) ∧ (c.toNat : Int) ≤ 90) || ((c.toNat : Int) == 32)) := by
  have : ∀ i : Fin 256, inRow signsL (UInt8.ofNat i.1) = (decide (48 ≤ (i.1 : Int) ∧ (i.1 : Int) ≤ 57) || decide (65 ≤ (i.1 : Int) ∧ (i.1 : Int) ≤ 90) || ((i.1 : Int) == 32)) := by decide
  have h := this ⟨c.toNat, c.toNat_lt⟩
  rw [UInt8.ofNat_toNat] at h
  exact h
set_option maxRecDepth 100000 in
theorem row_hex (c : UInt8) : inRow hexL c = (decide (48 ≤ (c.toNat : Int) ∧ (c.toNat : Int) ≤ 57) || decide (97 ≤ (c.toNat : Int) ∧ (c.toNat : Int) ≤ 102)) := by
  have : ∀ i : Fin 256, inRow hexL (UInt8.ofNat i.1) = (decide (48 ≤ (i.1 : Int) ∧ (i.1 : Int) ≤ 57) || decide (97 ≤ (i.1 : Int) ∧ (i.1 : Int) ≤ 102)) := by decide
  have h := this ⟨c.toNat, c.toNat_lt⟩
  rw [UInt8.ofNat_toNat] at h
  exact h
theorem ref_sign (c : UInt8) : groatref04_sign.f (c.toNat : Int) = some (inRow signsL c) := by
  unfold groatref04_sign.f
  rw [ref_digit, row_ten, row_signs]
  simp only [Option.bind_some]
  by_cases h : 48 ≤ (c.toNat : Int) ∧ (c.toNat : Int) ≤ 57
  · rw [decide_eq_true h]; rfl
  · rw [decide_eq_false h, if_neg (by simp)]
    by_cases h2 : 65 ≤ (c.toNat : Int)
    · rw [if_pos h2]
      by_cases h3 : (c.toNat : Int) ≤ 90
      · rw [if_pos h3]; simp [h2, h3]
      · rw [if_neg h3]; simp [h3]
    · rw [if_neg h2]; simp [h2]
theorem ref_hex (c : UInt8) : groatref04_hex.f (c.toNat : Int) = some (inRow hexL c) := by
  unfold groatref04_hex.f
  rw [ref_digit, row_ten, row_hex]
  simp only [Option.bind_some]
  by_cases h : 48 ≤ (c.toNat : Int) ∧ (c.toNat : Int) ≤ 57
  · rw [decide_eq_true h]; rfl
  · rw [decide_eq_false h, if_neg (by simp)]
    by_cases h2 : 97 ≤ (c.toNat : Int)
    · rw [if_pos h2]
      by_cases h3 : (c.toNat : Int) ≤ 102
      · simp [h2, h3]
      · simp [h3]
    · rw [if_neg h2]; simp [h2]
theorem ref_signs_loop (x : ByteArray) (p n c : Int) (hx : x.size ≤ 1048577) : ∀ (d k : Nat) (i : Int), 0 ≤ i → (x.size : Int) - i = d → d < k → groatref04_right.l0 k x i p n c = some ((x.data.toList.drop i.toNat).all (inRow signsL) && ((x.size : Int) == n))
  | 0, k, i, h0, hd, hk => by
    obtain ⟨k, rfl⟩ : ∃ m, k = m + 1 := ⟨k - 1, by omega⟩
    rw [groatref04_right.l0, if_neg (by omega), List.drop_of_length_le (by rw [size_list]; omega)]
    simp
  | d + 1, k, i, h0, hd, hk => by
    obtain ⟨k, rfl⟩ : ∃ m, k = m + 1 := ⟨k - 1, by omega⟩
    have hlt : i < (x.size : Int) := by omega
    obtain ⟨ch, hc, hb⟩ := drop_bt x i h0 hlt
    rw [groatref04_right.l0, if_pos hlt, if_pos h0, hb, ref_sign, hc, List.all_cons]
    simp only [Option.bind_some]
    rw [show wrap64 (i + 1) = i + 1 from IntWalk.wrap64_in _ ⟨by omega, by omega⟩]
    cases h : inRow signsL ch with
    | false => rfl
    | true =>
      rw [if_pos rfl, ref_signs_loop x p n c hx d k (i + 1) (by omega) (by omega) (by omega)]
      simp
theorem ref_hex_loop (x : ByteArray) (p n c : Int) (hx : x.size ≤ 1048577) : ∀ (d k : Nat) (i : Int), 0 ≤ i → (x.size : Int) - i = d → d < k → groatref04_right.l1 k x i p n c = some ((x.data.toList.drop i.toNat).all (inRow hexL) && ((x.size : Int) == wrap64 (2 * n)))
  | 0, k, i, h0, hd, hk => by
    obtain ⟨k, rfl⟩ : ∃ m, k = m + 1 := ⟨k - 1, by omega⟩
    rw [groatref04_right.l1, if_neg (by omega), List.drop_of_length_le (by rw [size_list]; omega)]
    simp
  | d + 1, k, i, h0, hd, hk => by
    obtain ⟨k, rfl⟩ : ∃ m, k = m + 1 := ⟨k - 1, by omega⟩
    have hlt : i < (x.size : Int) := by omega
    obtain ⟨ch, hc, hb⟩ := drop_bt x i h0 hlt
    rw [groatref04_right.l1, if_pos hlt, if_pos h0, hb, ref_hex, hc, List.all_cons]
    simp only [Option.bind_some]
    rw [show wrap64 (i + 1) = i + 1 from IntWalk.wrap64_in _ ⟨by omega, by omega⟩]
    cases h : inRow hexL ch with
    | false => rfl
    | true =>
      rw [if_pos rfl, ref_hex_loop x p n c hx d k (i + 1) (by omega) (by omega) (by omega)]
      simp
theorem ref_right (p n c : Int) (x : ByteArray) (hx : x.size ≤ 1048577) (hn : 1 ≤ n ∧ n ≤ 64) (k : Nat) (hk : x.size < k) : groatref04_right.f k p n c x = some (rightB p n x.data.toList) := by
  have hw1 : wrap64 (n + 1) = n + 1 := IntWalk.wrap64_in _ ⟨by omega, by omega⟩
  have hw2 : wrap64 (2 * n) = 2 * n := IntWalk.wrap64_in _ ⟨by omega, by omega⟩
  have ha := ref_all x hx k hk
  have h21 : ¬ ((2 : Int) = 1) := by decide
  have h51 : ¬ ((5 : Int) = 1) := by decide
  have h52 : ¬ ((5 : Int) = 2) := by decide
  have h31 : ¬ ((3 : Int) = 1) := by decide
  have h32 : ¬ ((3 : Int) = 2) := by decide
  have h35 : ¬ ((3 : Int) = 5) := by decide
  by_cases h1 : p = 1
  · subst h1
    rw [show rightB 1 n x.data.toList = (x.data.toList.all (inRow tenL) && decide ((x.data.toList.length : Int) = n)) from rfl, size_list, groatref04_right.f, if_pos rfl]
    by_cases hs : (x.size : Int) = n
    · rw [if_pos hs, ha]; simp [hs]
    · rw [if_neg hs]; simp [hs]
  · by_cases h2 : p = 2
    · subst h2
      rw [show rightB 2 n x.data.toList = (decide (0 < x.data.toList.length ∧ (x.data.toList.length : Int) ≤ n) && (x.data.toList.all (inRow tenL) && decide ((x.data.toList.length : Int) = x.data.toList.length))) from rfl, size_list, groatref04_right.f, if_neg h21, if_pos rfl]
      by_cases hs : (x.size : Int) ≥ 1
      · rw [if_pos hs]
        by_cases hs2 : (x.size : Int) ≤ n
        · rw [if_pos hs2, ha, decide_eq_true (show 0 < x.size ∧ (x.size : Int) ≤ n by omega)]
          simp
        · rw [if_neg hs2, decide_eq_false (show ¬ (0 < x.size ∧ (x.size : Int) ≤ n) by omega)]
          rfl
      · rw [if_neg hs, decide_eq_false (show ¬ (0 < x.size ∧ (x.size : Int) ≤ n) by omega)]
        rfl
    · by_cases h5 : p = 5
      · subst h5
        rw [groatref04_right.f, if_neg h51, if_neg h52, if_pos rfl, hw1]
        cases hl : x.data.toList with
        | nil =>
          have hz : x.size = 0 := by rw [← size_list, hl]; rfl
          rw [if_neg (by omega)]
          rfl
        | cons a r =>
          have hz := size_cons hl
          have hb : bt x 0 = (a.toNat : Int) := by
            rw [← bt_at x 0 (by show 0 < x.size; omega)]
            have := head_eq hl (by omega)
            rw [← this]
            rfl
          have hr := ref_all (x.extract 1 x.size) (by rw [← size_list, tail_data x a r hl]; omega) k (by rw [← size_list, tail_data x a r hl]; omega)
          rw [tail_data x a r hl] at hr
          rw [show rightB 5 n (a :: r) = ((a == 67 || a == 68) && (r.all (inRow tenL) && decide ((r.length : Int) = n))) from rfl]
          by_cases hs : (x.size : Int) = n + 1
          · have hg : 1 ≤ (x.size : Int) := by omega
            rw [if_pos hs, if_pos (by omega), hb]
            have hrl : (r.length : Int) = n := by omega
            by_cases h67 : a = 67
            · subst h67
              rw [if_pos (show ((67 : UInt8).toNat : Int) = 67 from rfl), if_pos hg, hr]
              simp [hrl]
            · have h67' : ¬ ((a.toNat : Int) = 67) := fun e => h67 (UInt8.toNat_inj.1 (by show a.toNat = 67; omega))
              rw [if_neg h67']
              by_cases h68 : a = 68
              · subst h68
                rw [if_pos (show ((68 : UInt8).toNat : Int) = 68 from rfl), if_pos hg, hr]
                simp [hrl]
              · have h68' : ¬ ((a.toNat : Int) = 68) := fun e => h68 (UInt8.toNat_inj.1 (by show a.toNat = 68; omega))
                rw [if_neg h68']
                simp [h67, h68]
          · rw [if_neg hs]
            have hrl : ¬ (r.length : Int) = n := by omega
            simp [hrl]
      · by_cases h3 : p = 3
        · subst h3
          rw [show rightB 3 n x.data.toList = (x.data.toList.all (inRow signsL) && decide ((x.data.toList.length : Int) = n)) from rfl, size_list, groatref04_right.f, if_neg h31, if_neg h32, if_neg h35, if_pos rfl, ref_signs_loop x _ n c hx x.size k 0 (by decide) (by omega) hk]
          rfl
        · have e : rightB p n x.data.toList = (x.data.toList.all (inRow hexL) && decide ((x.data.toList.length : Int) = 2 * n)) := by simp [rightB, h1, h2, h3, h5, ofB]
          rw [e, size_list, groatref04_right.f, if_neg h1, if_neg h2, if_neg h5, if_neg h3, ref_hex_loop x _ n c hx x.size k 0 (by decide) (by omega) hk, hw2]
          rfl
theorem ref_may (p n c : Int) : groatref04_may.f p n c = some (mayB p n c) := by
  unfold groatref04_may.f mayB
  by_cases a : p ≥ 1 <;> by_cases b : p ≤ 5 <;> by_cases d : n ≥ 1 <;> by_cases e : n ≤ 64 <;> by_cases f : c ≥ 1 <;> by_cases g : c ≤ 3 <;> simp [a, b, d, e, f, g] <;> omega

/-! What the reference writes. -/
set_option maxRecDepth 100000 in
theorem value_hex {c : UInt8} (h : isHex c) : groatref04_value.f (c.toNat : Int) = some (hv c : Int) := by
  have hr : inRow hexL c = true := decide_eq_true h
  have key : ∀ i : Fin 256, Lib.indexByte hexL (UInt8.ofNat i.1) ≠ -1 → ((48 ≤ (i.1 : Int) ∧ (i.1 : Int) ≤ 57 ∧ ((i.1 : Int) - 48) % 256 = (Lib.indexByte hexL (UInt8.ofNat i.1)).toNat) ∨ (¬ (48 ≤ (i.1 : Int) ∧ (i.1 : Int) ≤ 57) ∧ (((i.1 : Int) - 97) % 256 + 10) = (Lib.indexByte hexL (UInt8.ofNat i.1)).toNat)) := by decide
  have h2 := key ⟨c.toNat, c.toNat_lt⟩ (by rw [UInt8.ofNat_toNat]; exact h)
  simp only [UInt8.ofNat_toNat] at h2
  unfold groatref04_value.f
  rw [ref_digit, row_ten]
  simp only [Option.bind_some]
  rcases h2 with ⟨a, b, e⟩ | ⟨a, e⟩
  · rw [decide_eq_true ⟨a, b⟩, if_pos rfl, e]
    rfl
  · rw [decide_eq_false a, if_neg (by simp), e]
    rfl
theorem packed_loop (x : ByteArray) (hx : x.size ≤ 1048580) (hh : ∀ c ∈ x.data.toList, isHex c) (he : x.size % 2 = 0) : ∀ (d k : Nat) (i : Int) (acc : List Int), 0 ≤ i → i.toNat % 2 = 0 → (x.size : Int) - i = 2 * d → d < k →
    acc.length + d ≤ 2097154 → groatref04_packed.l0 k x acc i = some (acc ++ nums8 (packE (x.data.toList.drop i.toNat)))
  | 0, k, i, acc, h0, _, hd, hk, _ => by
    obtain ⟨k, rfl⟩ : ∃ m, k = m + 1 := ⟨k - 1, by omega⟩
    rw [groatref04_packed.l0, if_neg (by omega), List.drop_of_length_le (by rw [size_list]; omega)]
    simp [packE, nums8]
  | d + 1, k, i, acc, h0, hp, hd, hk, hs => by
    obtain ⟨k, rfl⟩ : ∃ m, k = m + 1 := ⟨k - 1, by omega⟩
    obtain ⟨a, hca, hba⟩ := drop_bt x i h0 (by omega)
    obtain ⟨b, hcb, hbb⟩ := drop_bt x (i + 1) (by omega) (by omega)
    have hma : isHex a := hh a (List.mem_of_mem_drop (i := i.toNat) (by rw [hca]; simp))
    have hmb : isHex b := hh b (List.mem_of_mem_drop (i := (i + 1).toNat) (by rw [hcb]; simp))
    have la := hv_lt hma
    have lb := hv_lt hmb
    have hbyte : (wrap64 (wrap64 (16 * (hv a : Int)) + (hv b : Int))) % 256 = (((16 * hv a + hv b).toUInt8.toNat : Nat) : Int) := by
      rw [IntWalk.wrap64_in (16 * (hv a : Int)) ⟨by omega, by omega⟩, IntWalk.wrap64_in _ ⟨by omega, by omega⟩]
      simp only [Nat.toUInt8, UInt8.toNat_ofNat']
      omega
    rw [groatref04_packed.l0, if_pos (by omega), if_pos h0, hba, value_hex hma]
    simp only [Option.bind_some]
    rw [IntWalk.wrap64_in (i + 1) ⟨by omega, by omega⟩, if_pos (by omega), if_pos (by omega), hbb, value_hex hmb]
    simp only [Option.bind_some]
    rw [if_pos (by omega), IntWalk.wrap64_in (i + 2) ⟨by omega, by omega⟩, hbyte]
    have hal : (acc ++ [(((16 * hv a + hv b).toUInt8.toNat : Nat) : Int)]).length = acc.length + 1 := by simp
    rw [packed_loop x hx hh he d k (i + 2) _ (by omega) (by omega) (by omega) (by omega) (by omega)]
    rw [hca, hcb, show (i + 1 + 1).toNat = (i + 2).toNat by omega]
    simp [packE, nums8]
theorem ref_packed (x : ByteArray) (hx : x.size ≤ 1048577) (hh : ∀ c ∈ x.data.toList, isHex c) (k : Nat) (hk : x.size + 10 < k) : groatref04_packed.f k x = some (nums8 (packL x.data.toList)) := by
  obtain ⟨k, rfl⟩ : ∃ m, k = m + 1 := ⟨k - 1, by omega⟩
  unfold groatref04_packed.f
  by_cases h : ((x.size : Int) % 2) = 1
  · have hsz : ((⟨#[48]⟩ : ByteArray) ++ x).size = 1 + x.size := by rw [ByteArray.size_append]; rfl
    have hl : ((⟨#[48]⟩ : ByteArray) ++ x).data.toList = 48 :: x.data.toList := by simp
    have he : evened x.data.toList = 48 :: x.data.toList := by
      unfold evened
      rw [if_pos (by rw [size_list]; omega)]
    rw [if_pos h, if_pos (by omega), groatref04_packed.j0, packed_loop _ (by omega) (by
      rw [hl, ← he]
      exact evened_hex hh) (by omega) (x.size / 2 + 1) k 0 [] (by decide) rfl (by rw [hsz]; omega) (by omega) (by simp; omega)]
    rw [show (0 : Int).toNat = 0 from rfl, List.drop_zero, hl, ← he]
    rfl
  · have he : evened x.data.toList = x.data.toList := by
      unfold evened
      rw [if_neg (by rw [size_list]; omega)]
    rw [if_neg h, groatref04_packed.j0, packed_loop _ (by omega) hh (by omega) (x.size / 2) k 0 [] (by decide) rfl (by omega) (by omega) (by simp; omega)]
    rw [show (0 : Int).toNat = 0 from rfl, List.drop_zero]
    unfold packL
    rw [he]
    rfl
set_option maxRecDepth 100000 in
theorem ref_ebcdic {c : UInt8} (h : inRow signsL c = true) (k : Nat) (hk : 3 ≤ k) : groatref04_ebcdic.f k (c.toNat : Int) = some (((ebcB.data.toList.getD (Lib.indexByte signsL c).toNat 0).toNat : Nat) : Int) := by
  obtain ⟨k, rfl⟩ : ∃ m, k = m + 2 := ⟨k - 2, by omega⟩
  have key : ∀ i : Fin 256, inRow signsL (UInt8.ofNat i.1) = true → (if 48 ≤ (i.1 : Int) ∧ (i.1 : Int) ≤ 57 then (240 + (i.1 : Int) - 48) % 256 else if 65 ≤ (i.1 : Int) ∧ (i.1 : Int) ≤ 73 then (193 + (i.1 : Int) - 65) % 256 else if 74 ≤ (i.1 : Int) ∧ (i.1 : Int) ≤ 82 then (209 + (i.1 : Int) - 74) % 256 else if 83 ≤ (i.1 : Int) ∧ (i.1 : Int) ≤ 90 then (226 + (i.1 : Int) - 83) % 256 else 64) = (((ebcB.data.toList.getD (Lib.indexByte signsL (UInt8.ofNat i.1)).toNat 0).toNat : Nat) : Int) := by decide
  have h2 := key ⟨c.toNat, c.toNat_lt⟩ (by rw [UInt8.ofNat_toNat]; exact h)
  simp only [UInt8.ofNat_toNat] at h2
  rw [← h2]
  clear h2 key h
  unfold groatref04_ebcdic.f
  rw [ref_digit, row_ten]
  simp only [Option.bind_some]
  generalize (c.toNat : Int) = n
  by_cases a : 48 ≤ n ∧ n ≤ 57
  · rw [decide_eq_true a, if_pos rfl, if_pos a]
  · rw [decide_eq_false a, if_neg (by simp), if_neg a]
    by_cases b : n ≥ 65
    · rw [if_pos b, groatref04_ebcdic.j0]
      by_cases d : n ≤ 73
      · rw [decide_eq_true d, if_pos rfl, if_pos ⟨b, d⟩]
      · rw [decide_eq_false d, if_neg (by simp), if_neg (show ¬ (65 ≤ n ∧ n ≤ 73) by omega)]
        by_cases e : n ≥ 74
        · rw [if_pos e, groatref04_ebcdic.j1]
          by_cases f : n ≤ 82
          · rw [decide_eq_true f, if_pos rfl, if_pos ⟨e, f⟩]
          · rw [decide_eq_false f, if_neg (by simp), if_neg (show ¬ (74 ≤ n ∧ n ≤ 82) by omega)]
            by_cases g : n ≥ 83
            · rw [if_pos g]
              by_cases o : n ≤ 90
              · rw [if_pos o, if_pos ⟨g, o⟩]
              · rw [if_neg o, if_neg (show ¬ (83 ≤ n ∧ n ≤ 90) by omega)]
            · rw [if_neg g, if_neg (show ¬ (83 ≤ n ∧ n ≤ 90) by omega)]
        · exact absurd (show n ≥ 74 by omega) e
    · rw [if_neg b, groatref04_ebcdic.j0, if_neg (by simp), if_neg (show ¬ (65 ≤ n ∧ n ≤ 73) by omega), if_neg (show ¬ (n ≥ 74) by omega), groatref04_ebcdic.j1, if_neg (by simp), if_neg (show ¬ (74 ≤ n ∧ n ≤ 82) by omega), if_neg (show ¬ (n ≥ 83) by omega), if_neg (show ¬ (83 ≤ n ∧ n ≤ 90) by omega)]
def signB (c : Int) (b : UInt8) : UInt8 := if c = 3 then ebcB.data.toList.getD (Lib.indexByte signsL b).toNat 0 else b
theorem signs_loop (c : Int) (x : ByteArray) (hx : x.size ≤ 1048577) (ha : x.data.toList.all (inRow signsL) = true) : ∀ (d k : Nat) (i : Int) (acc : List Int), 0 ≤ i → (x.size : Int) - i = d → d + 3 < k → acc.length + d ≤ 2097154 →
    groatref04_signs.l0 k c x acc i = some (acc ++ nums8 ((x.data.toList.drop i.toNat).map (signB c)))
  | 0, k, i, acc, h0, hd, hk, _ => by
    obtain ⟨k, rfl⟩ : ∃ m, k = m + 1 := ⟨k - 1, by omega⟩
    rw [groatref04_signs.l0, if_neg (by omega), List.drop_of_length_le (by rw [size_list]; omega)]
    simp [nums8]
  | d + 1, k, i, acc, h0, hd, hk, hs => by
    obtain ⟨k, rfl⟩ : ∃ m, k = m + 1 := ⟨k - 1, by omega⟩
    have hlt : i < (x.size : Int) := by omega
    obtain ⟨b, hc, hb⟩ := drop_bt x i h0 hlt
    have hin := List.all_eq_true.1 ha b (List.mem_of_mem_drop (i := i.toNat) (by rw [hc]; simp))
    rw [groatref04_signs.l0, if_pos hlt]
    by_cases h3 : c = 3
    · rw [if_pos h3, if_pos h0, hb, ref_ebcdic hin k (by omega)]
      simp only [Option.bind_some]
      rw [if_pos (by omega), IntWalk.wrap64_in (i + 1) ⟨by omega, by omega⟩, signs_loop c x hx ha d k (i + 1) _ (by omega) (by omega) (by omega) (by simp; omega), hc]
      simp [nums8, signB, h3]
    · rw [if_neg h3, if_pos h0, if_pos (by omega), IntWalk.wrap64_in (i + 1) ⟨by omega, by omega⟩, hb, signs_loop c x hx ha d k (i + 1) _ (by omega) (by omega) (by omega) (by simp; omega), hc]
      simp [nums8, signB, h3]
theorem ref_signs (c : Int) (x : ByteArray) (hx : x.size ≤ 1048577) (ha : x.data.toList.all (inRow signsL) = true) (k : Nat) (hk : x.size + 10 < k) : groatref04_signs.f k c x = some (nums8 (x.data.toList.map (signB c))) := by
  unfold groatref04_signs.f
  rw [signs_loop c x hx ha x.size k 0 [] (by decide) (by omega) (by omega) (by simp; omega)]
  rfl
theorem turn_map {fr tt : List UInt8} : ∀ {l : List UInt8}, l.all (inRow fr) = true → turnL fr tt l = some (l.map fun b => tt.getD (Lib.indexByte fr b).toNat 0)
  | [], _ => rfl
  | c :: l, h => by
    simp only [List.all_cons, Bool.and_eq_true] at h
    have hc : Lib.indexByte fr c ≠ -1 := by simpa [inRow] using h.1
    simp only [turnL]
    rw [if_neg hc, turn_map h.2]
    rfl
theorem letters_map {c : Int} {l : List UInt8} (hc : 1 ≤ c ∧ c ≤ 3) (h : l.all (inRow signsL) = true) : (lettersC c).put l = l.map (signB c) := by
  have e1 : ∀ c' : Int, c' ≠ 3 → (turnL signsL signsL l).getD [] = l.map (signB c') := by
    intro c' hc'
    rw [turn_map h]
    simp only [Option.getD_some]
    refine List.map_congr_left fun b hb => ?_
    obtain ⟨i, hi, _, hg⟩ := index_get (fr := signsL) (c := b) (by simpa [inRow] using List.all_eq_true.1 h b hb)
    rw [hi, Int.toNat_natCast, hg]
    unfold signB
    rw [if_neg hc']
  unfold lettersC
  by_cases h1 : c = 1
  · rw [if_pos h1]
    exact e1 c (by omega)
  · rw [if_neg h1]
    by_cases h2 : c = 2
    · rw [if_pos h2]
      exact e1 c (by omega)
    · rw [if_neg h2]
      have h3 : c = 3 := by omega
      show (turnL signsL ebcB.data.toList l).getD [] = _
      rw [turn_map h]
      simp only [Option.getD_some]
      refine List.map_congr_left fun b hb => ?_
      unfold signB
      rw [if_pos h3]
set_option maxRecDepth 100000 in
theorem ten_signs {b : UInt8} (h : inRow tenL b = true) : inRow signsL b = true ∧ eb10.data.toList.getD (Lib.indexByte tenL b).toNat 0 = ebcB.data.toList.getD (Lib.indexByte signsL b).toNat 0 := by
  have key : ∀ i : Fin 256, inRow tenL (UInt8.ofNat i.1) = true → inRow signsL (UInt8.ofNat i.1) = true ∧ eb10.data.toList.getD (Lib.indexByte tenL (UInt8.ofNat i.1)).toNat 0 = ebcB.data.toList.getD (Lib.indexByte signsL (UInt8.ofNat i.1)).toNat 0 := by decide
  have h2 := key ⟨b.toNat, b.toNat_lt⟩ (by rw [UInt8.ofNat_toNat]; exact h)
  simp only [UInt8.ofNat_toNat] at h2
  exact h2
theorem ten_all {l : List UInt8} (h : l.all (inRow tenL) = true) : l.all (inRow signsL) = true := List.all_eq_true.2 fun b hb => (ten_signs (List.all_eq_true.1 h b hb)).1
theorem digits_map {c : Int} {l : List UInt8} (hc : c = 1 ∨ c = 3) (h : l.all (inRow tenL) = true) : (digitsC c).put l = l.map (signB c) := by
  rcases hc with rfl | rfl
  · show (turnL tenL tenL l).getD [] = _
    rw [turn_map h]
    simp only [Option.getD_some]
    refine List.map_congr_left fun b hb => ?_
    obtain ⟨i, hi, _, hg⟩ := index_get (fr := tenL) (c := b) (by simpa [inRow] using List.all_eq_true.1 h b hb)
    rw [hi, Int.toNat_natCast, hg]
    rfl
  · show (turnL tenL eb10.data.toList l).getD [] = _
    rw [turn_map h]
    simp only [Option.getD_some]
    refine List.map_congr_left fun b hb => ?_
    exact (ten_signs (List.all_eq_true.1 h b hb)).2
theorem ref_dig (c : Int) (hc : 1 ≤ c ∧ c ≤ 3) (x : ByteArray) (hx : x.size ≤ 1048577) (ha : x.data.toList.all (inRow tenL) = true) (k : Nat) (hk : x.size + 10 < k) : groatref04_digits.f k c x = some (nums8 ((digitsC c).put x.data.toList)) := by
  unfold groatref04_digits.f
  by_cases h2 : c = 2
  · subst h2
    rw [if_pos rfl, ref_packed x hx (fun b hb => ten_hex (List.all_eq_true.1 ha b hb)) k hk]
    rfl
  · rw [if_neg h2, ref_signs c x hx (ten_all ha) k hk, digits_map (by omega) ha]
    rfl
theorem ten_num : ∀ i : Nat, i < 10 → ((tenL.getD i 0).toNat : Int) = 48 + i := by
  have : ∀ i : Fin 10, ((tenL.getD i.1 0).toNat : Int) = 48 + (i.1 : Int) := by decide
  exact fun i hi => this ⟨i, hi⟩
theorem ref_two (n : Nat) (h : n < 100) : groatref04_two.f (n : Int) = some ⟨(told n).toArray⟩ := by
  unfold groatref04_two.f
  have e1 : Int.tdiv (n : Int) 10 = ((n / 10 : Nat) : Int) := by rw [Int.tdiv_eq_ediv_of_nonneg (by omega)]; omega
  have e2 : Int.tmod (n : Int) 10 = ((n % 10 : Nat) : Int) := by rw [Int.tmod_eq_emod_of_nonneg (by omega)]; omega
  have t1 := ten_num (n / 10) (by omega)
  have t2 := ten_num (n % 10) (by omega)
  rw [e1, e2, IntWalk.wrap64_in ((n / 10 : Nat) : Int) ⟨by omega, by omega⟩, IntWalk.wrap64_in (48 + ((n / 10 : Nat) : Int)) ⟨by omega, by omega⟩, IntWalk.wrap64_in (48 + ((n % 10 : Nat) : Int)) ⟨by omega, by omega⟩,
    show (48 + ((n / 10 : Nat) : Int)) % 256 = ((tenL.getD (n / 10) 0).toNat : Int) by omega, show (48 + ((n % 10 : Nat) : Int)) % 256 = ((tenL.getD (n % 10) 0).toNat : Int) by omega]
  have := str_nums (told n)
  unfold told nums8 at this
  simp only [List.map_cons, List.map_nil] at this
  rw [this]
  rfl
def highC (b : UInt8) : UInt8 := highB.data.toList.getD (Lib.indexByte hexL b).toNat 0
set_option maxRecDepth 100000 in
theorem high_byte {b : UInt8} (h : inRow hexL b = true) : (if (b.toNat : Int) ≥ 97 then (((b.toNat : Int) - 97) + 65) % 256 else (b.toNat : Int)) = ((highC b).toNat : Int) := by
  have key : ∀ i : Fin 256, inRow hexL (UInt8.ofNat i.1) = true → (if (i.1 : Int) ≥ 97 then (((i.1 : Int) - 97) + 65) % 256 else (i.1 : Int)) = ((highC (UInt8.ofNat i.1)).toNat : Int) := by decide
  have h2 := key ⟨b.toNat, b.toNat_lt⟩ (by rw [UInt8.ofNat_toNat]; exact h)
  simp only [UInt8.ofNat_toNat] at h2
  exact h2
theorem bytes_loop (x : ByteArray) (hx : x.size ≤ 1048577) (ha : x.data.toList.all (inRow hexL) = true) : ∀ (d k : Nat) (i : Int) (acc : List Int), 0 ≤ i → (x.size : Int) - i = d → d < k → acc.length + d ≤ 2097154 →
    groatref04_bytes.l0 k x acc i = some (acc ++ nums8 ((x.data.toList.drop i.toNat).map highC))
  | 0, k, i, acc, h0, hd, hk, _ => by
    obtain ⟨k, rfl⟩ : ∃ m, k = m + 1 := ⟨k - 1, by omega⟩
    rw [groatref04_bytes.l0, if_neg (by omega), List.drop_of_length_le (by rw [size_list]; omega)]
    simp [nums8]
  | d + 1, k, i, acc, h0, hd, hk, hs => by
    obtain ⟨k, rfl⟩ : ∃ m, k = m + 1 := ⟨k - 1, by omega⟩
    have hlt : i < (x.size : Int) := by omega
    obtain ⟨b, hc, hb⟩ := drop_bt x i h0 hlt
    have hin := high_byte (List.all_eq_true.1 ha b (List.mem_of_mem_drop (i := i.toNat) (by rw [hc]; simp)))
    rw [groatref04_bytes.l0, if_pos hlt, if_pos h0, hb]
    by_cases h97 : (b.toNat : Int) ≥ 97
    · rw [if_pos h97] at hin
      rw [if_pos h97, if_pos (by omega), hin, IntWalk.wrap64_in (i + 1) ⟨by omega, by omega⟩, bytes_loop x hx ha d k (i + 1) _ (by omega) (by omega) (by omega) (by simp; omega), hc]
      simp [nums8]
    · rw [if_neg h97] at hin
      rw [if_neg h97, if_pos (by omega), hin, IntWalk.wrap64_in (i + 1) ⟨by omega, by omega⟩, bytes_loop x hx ha d k (i + 1) _ (by omega) (by omega) (by omega) (by simp; omega), hc]
      simp [nums8]
theorem ref_bytes {p n c : Int} (x : ByteArray) (hx : x.size ≤ 1048576) (h : checkR p n c x.data.toList = 0) (k : Nat) (hk : 1048600 < k) : groatref04_bytes.f k p n c x = some (nums8 (putBytes p c x.data.toList)) := by
  have hm := (check_zero h).1
  have hc : 1 ≤ c ∧ c ≤ 3 := by simp [mayB] at hm; omega
  obtain ⟨hn, ⟨rfl, a, r, hl, ha, hr, hlen⟩ | ⟨rfl, h0, h1, hr⟩ | ⟨rfl, hr, hlen⟩ | ⟨rfl, hr, hlen⟩ | ⟨rfl, hr, hlen⟩⟩ := fit_of h
  · have hz := size_cons hl
    have e1 : (x.extract 0 1).data.toList = [a] := by rw [cut_head, hl]; rfl
    have e2 : (x.extract 1 x.size).data.toList = r := tail_data x a r hl
    have s1 : (x.extract 0 1).size = 1 := by rw [← size_list, e1]; rfl
    have s2 : (x.extract 1 x.size).size = r.length := by rw [← size_list, e2]
    unfold groatref04_bytes.f
    rw [if_neg (by decide), if_neg (by decide), if_pos rfl, if_pos (by decide), if_pos (by omega), ref_signs c _ (by omega) (by rw [e1]; exact ha) k (by omega), ref_dig c hc _ (by omega) (by rw [e2]; exact hr) k (by omega), e1, e2]
    simp only [Option.bind_some]
    have hp : putBytes 5 c x.data.toList = [a].map (signB c) ++ (digitsC c).put r := by
      rw [hl, ← letters_map hc ha]
      rfl
    have l2 := put_length (digitsC c) r
    rw [if_pos (by simp only [nums8, List.length_map, List.length_cons, List.length_nil]; omega), hp]
    simp [nums8]
  · have t1 := ref_two x.data.toList.length (by omega)
    rw [size_list] at t1
    have ht := told_ok x.data.toList.length (by omega)
    unfold groatref04_bytes.f
    rw [if_neg (by decide), if_pos rfl, t1]
    simp only [Option.bind_some]
    rw [← size_list] at *
    rw [ref_dig c hc ⟨(told x.data.toList.length).toArray⟩ (by rw [size_arr]; exact Nat.le_trans (Nat.le_of_eq (told_length _)) (by decide)) (by simpa using ht) k (by rw [size_arr, told_length]; omega), ref_dig c hc x (by rw [← size_list]; omega) hr k (by rw [← size_list]; omega)]
    simp only [Option.bind_some]
    have l1 := put_length (digitsC c) (told x.data.toList.length)
    have l2 := put_length (digitsC c) x.data.toList
    rw [told_length] at l1
    rw [if_pos (by simp only [nums8, List.length_map]; omega)]
    have hp : putBytes 2 c x.data.toList = (digitsC c).put (told x.data.toList.length) ++ (digitsC c).put x.data.toList := rfl
    rw [hp]
    simp [nums8]
  · unfold groatref04_bytes.f
    rw [if_pos rfl, ref_dig c hc x (by omega) hr k (by omega)]
    rfl
  · unfold groatref04_bytes.f
    rw [if_neg (by decide), if_neg (by decide), if_neg (by decide), if_pos rfl, ref_signs c x (by omega) hr k (by omega), ← letters_map hc hr]
    rfl
  · unfold groatref04_bytes.f
    rw [if_neg (by decide), if_neg (by decide), if_neg (by decide), if_neg (by decide)]
    by_cases h1 : c = 1
    · subst h1
      rw [if_pos rfl, bytes_loop x (by omega) hr x.size k 0 [] (by decide) (by omega) (by omega) (by simp; omega)]
      have : (rawC 1).put x.data.toList = x.data.toList.map highC := by
        show (turnL hexL highB.data.toList x.data.toList).getD [] = _
        rw [turn_map hr]
        rfl
      have hp : putBytes 4 1 x.data.toList = (rawC 1).put x.data.toList := rfl
      rw [hp, this]
      rfl
    · rw [if_neg h1, ref_packed x (by omega) (fun b hb => show Lib.indexByte hexL b ≠ -1 from of_decide_eq_true (List.all_eq_true.1 hr b hb)) k (by omega)]
      have hp : putBytes 4 c x.data.toList = (rawC c).put x.data.toList := rfl
      have hq : (rawC c).put x.data.toList = packL x.data.toList := by
        unfold rawC
        rw [if_neg h1]
        rfl
      rw [hp, hq]
      rfl

/-! What the reference reads. -/
set_option maxRecDepth 100000 in
theorem sign_val (i : Nat) (h : i < 128) : groatref04_sign.f (i : Int) = some (inRow signsL (UInt8.ofNat i)) := by
  have := ref_sign (UInt8.ofNat i)
  rw [UInt8.toNat_ofNat_of_lt' (by show i < 256; omega)] at this
  exact this
/-- The last sign (from i on, so many more) that a byte may be; else what was found before. -/
def foundB (b : UInt8) (f : UInt8) : Nat → Nat → UInt8
  | _, 0 => f
  | i, d + 1 => foundB b (if inRow signsL (UInt8.ofNat i) = true ∧ signB 3 (UInt8.ofNat i) = b then UInt8.ofNat i else f) (i + 1) d
def fnd (b : UInt8) : UInt8 := foundB b 0 0 128
def tb (p c : Int) (first : Bool) (b : UInt8) : List UInt8 :=
  if (c = 2 ∧ (p = 1 ∨ p = 2 ∨ (p = 5 ∧ first = false))) ∨ (p = 4 ∧ c ≠ 1) then [hexd (b.toNat / 16), hexd (b.toNat % 16)]
  else if c = 3 ∧ p ≠ 4 then [fnd b]
  else if p = 4 then [if 65 ≤ b.toNat ∧ b.toNat ≤ 70 then b + 32 else b]
  else [b]
def decL (p c : Int) : Bool → List UInt8 → List UInt8
  | _, [] => []
  | first, b :: r => tb p c first b ++ decL p c false r
/-- What the loop comes to. -/
def endT (k : Nat) (x : List Int) (n' : Int) (s : ByteArray) (p n c : Int) : Option (ByteArray × Bool) :=
  if c = 2 then (if p = 1 then groatref04_text.j4 k x n' s ((s.size : Int) == wrap64 (n' + 1)) p n c else (if p = 2 then groatref04_text.j4 k x n' s ((s.size : Int) == wrap64 (n' + 1)) p n c else groatref04_text.j4 k x n' s false p n c)) else groatref04_text.j4 k x n' s false p n c
theorem found_loop (x : List Int) (n' : Int) (acc : List Int) (i : Int) (b : UInt8) (p n c : Int) (hacc : acc.length < 100000) : ∀ (d k s : Nat) (f : UInt8), s + d = 128 → d + 10 < k →
    ∃ k', k = k' + d + 1 ∧ groatref04_text.l1 k x n' acc i (b.toNat : Int) (f.toNat : Int) (s : Int) p n c = groatref04_text.l0 k' x n' (acc ++ [((foundB b f s d).toNat : Int)]) (wrap64 (i + 1)) p n c
  | 0, k, s, f, hs, hk => by
    refine ⟨k - 1, by omega, ?_⟩
    obtain ⟨k, rfl⟩ : ∃ m, k = m + 1 := ⟨k - 1, by omega⟩
    rw [groatref04_text.l1, if_neg (by omega), if_pos (by omega)]
    rfl
  | d + 1, k, s, f, hs, hk => by
    obtain ⟨k, rfl⟩ : ∃ m, k = m + 1 := ⟨k - 1, by omega⟩
    have hm : (s : Int) % 256 = (s : Int) := by omega
    have hst : ((UInt8.ofNat s).toNat : Int) = (s : Int) := by rw [UInt8.toNat_ofNat_of_lt' (by show s < 256; omega)]
    rw [groatref04_text.l1, if_pos (by omega), hm, sign_val s (by omega)]
    simp only [Option.bind_some]
    rw [IntWalk.wrap64_in ((s : Int) + 1) ⟨by omega, by omega⟩, show (s : Int) + 1 = ((s + 1 : Nat) : Int) by omega]
    simp only [foundB]
    cases hin : inRow signsL (UInt8.ofNat s) with
    | false =>
      rw [if_neg (by simp), if_neg (by simp)]
      obtain ⟨k', e1, e2⟩ := found_loop x n' acc i b p n c hacc d k (s + 1) f (by omega) (by omega)
      exact ⟨k', by omega, e2⟩
    | true =>
      have heb := ref_ebcdic hin k (by omega)
      rw [hst] at heb
      rw [if_pos rfl, heb]
      simp only [Option.bind_some]
      have hsb : signB 3 (UInt8.ofNat s) = ebcB.data.toList.getD (Lib.indexByte signsL (UInt8.ofNat s)).toNat 0 := rfl
      by_cases he : signB 3 (UInt8.ofNat s) = b
      · rw [← hsb, he, if_pos rfl, if_pos (by constructor <;> first | trivial | rfl), ← hst]
        obtain ⟨k', e1, e2⟩ := found_loop x n' acc i b p n c hacc d k (s + 1) (UInt8.ofNat s) (by omega) (by omega)
        exact ⟨k', by omega, e2⟩
      · rw [← hsb, if_neg (fun h => he (UInt8.toNat_inj.1 (by omega))), if_neg (by simp [he])]
        obtain ⟨k', e1, e2⟩ := found_loop x n' acc i b p n c hacc d k (s + 1) f (by omega) (by omega)
        exact ⟨k', by omega, e2⟩
theorem hex_at (i : Int) (h0 : 0 ≤ i) (h1 : i < 16) : bt (⟨#[48, 49, 50, 51, 52, 53, 54, 55, 56, 57, 97, 98, 99, 100, 101, 102]⟩ : ByteArray) i = ((hexd i.toNat).toNat : Int) := by
  have : ∀ i : Fin 16, bt (⟨#[48, 49, 50, 51, 52, 53, 54, 55, 56, 57, 97, 98, 99, 100, 101, 102]⟩ : ByteArray) (i.1 : Int) = ((hexd i.1).toNat : Int) := by decide
  have h := this ⟨i.toNat, by omega⟩
  rw [show ((i.toNat : Nat) : Int) = i by omega] at h
  exact h
def rawB (p c : Int) (first : Bool) : Bool := decide ((c = 2 ∧ (p = 1 ∨ p = 2 ∨ (p = 5 ∧ first = false))) ∨ (p = 4 ∧ c ≠ 1))
theorem text_step (k : Nat) (x : List Int) (n' : Int) (acc : List Int) (i : Int) (p n c : Int) (h0 : 0 ≤ i) (h1 : i < (x.length : Int)) :
    groatref04_text.l0 (k + 1) x n' acc i p n c = groatref04_text.j1 k x n' acc i (rd x i) (rawB p c (decide (i = 0))) p n c := by
  rw [groatref04_text.l0, if_pos h1, if_pos h0]
  by_cases c2 : c = 2
  · rw [if_pos c2]
    by_cases p1 : p = 1
    · rw [if_pos p1, show rawB p c (decide (i = 0)) = true from decide_eq_true (.inl ⟨c2, .inl p1⟩)]
    · rw [if_neg p1]
      by_cases p2 : p = 2
      · rw [if_pos p2, show rawB p c (decide (i = 0)) = true from decide_eq_true (.inl ⟨c2, .inr (.inl p2)⟩)]
      · rw [if_neg p2]
        by_cases p5 : p = 5
        · rw [if_pos p5]
          by_cases hi : i > 0
          · rw [if_pos hi, show rawB p c (decide (i = 0)) = true from decide_eq_true (.inl ⟨c2, .inr (.inr ⟨p5, decide_eq_false (by omega)⟩)⟩)]
          · have hi0 : i = 0 := by omega
            rw [if_neg hi, if_neg (by omega), show rawB p c (decide (i = 0)) = false from decide_eq_false (by simp [hi0]; omega)]
        · rw [if_neg p5]
          by_cases p4 : p = 4
          · rw [if_pos p4, show rawB p c (decide (i = 0)) = true from decide_eq_true (.inr ⟨p4, by omega⟩), c2]
            rfl
          · rw [if_neg p4, show rawB p c (decide (i = 0)) = false from decide_eq_false (by omega)]
  · rw [if_neg c2]
    by_cases p4 : p = 4
    · rw [if_pos p4]
      by_cases c1 : c = 1
      · rw [show rawB p c (decide (i = 0)) = false from decide_eq_false (by omega), c1]
        rfl
      · rw [show rawB p c (decide (i = 0)) = true from decide_eq_true (.inr ⟨p4, c1⟩), show (c != 1) = true by simpa using c1]
    · rw [if_neg p4, show rawB p c (decide (i = 0)) = false from decide_eq_false (by omega)]
theorem rd_nums (B : List UInt8) (i : Nat) (b : UInt8) (r : List UInt8) (h : B.drop i = b :: r) : rd (nums8 B) (i : Int) = (b.toNat : Int) := by
  have h2 : (nums8 B)[i]? = some (b.toNat : Int) := by
    have : (B.drop i)[0]? = some b := by rw [h]; rfl
    rw [List.getElem?_drop, Nat.add_zero] at this
    unfold nums8
    rw [List.getElem?_map, this]
    rfl
  unfold rd
  rw [Int.toNat_natCast, List.getD_eq_getElem?_getD, h2]
  rfl
theorem text_loop (B : List UInt8) (hB : B.length ≤ 1000) (n' : Int) (p n c : Int) (m : Nat) : ∀ (d k i : Nat) (acc : List Int), i + d = B.length → 140 * d + m + 10 < k → acc.length ≤ 2 * i →
    ∃ k', m < k' ∧ groatref04_text.l0 k (nums8 B) n' acc (i : Int) p n c = endT k' (nums8 B) n' (strOfNums (acc ++ nums8 (decL p c (decide (i = 0)) (B.drop i)))) p n c
  | 0, k, i, acc, hd, hk, ha => by
    obtain ⟨k, rfl⟩ : ∃ q, k = q + 1 := ⟨k - 1, by omega⟩
    have hl : (nums8 B).length = B.length := by simp [nums8]
    refine ⟨k, by omega, ?_⟩
    rw [groatref04_text.l0, if_neg (by omega), List.drop_of_length_le (by omega)]
    simp only [decL, nums8, List.map_nil, List.append_nil]
    unfold endT
    rfl
  | d + 1, k, i, acc, hd, hk, ha => by
    obtain ⟨k, rfl⟩ : ∃ q, k = q + 3 := ⟨k - 3, by omega⟩
    have hl : (nums8 B).length = B.length := by simp [nums8]
    obtain ⟨b, r, hbr⟩ : ∃ b r, B.drop i = b :: r := by
      cases h : B.drop i with
      | nil => have := congrArg List.length h; rw [List.length_drop] at this; simp at this; omega
      | cons b r => exact ⟨b, r, rfl⟩
    have hr : B.drop (i + 1) = r := by
      have := List.drop_drop (l := B) (i := 1) (j := i)
      rw [hbr] at this
      simpa [Nat.add_comm] using this.symm
    have hb256 := b.toNat_lt
    have hdec : decL p c (decide (i = 0)) (B.drop i) = tb p c (decide (i = 0)) b ++ decL p c false r := by rw [hbr]; rfl
    have hdi : decide (((i : Nat) : Int) = 0) = decide (i = 0) := by
      congr 1
      exact propext (by omega)
    have hnz : decide (i + 1 = 0) = false := by simp
    have hw : wrap64 ((i : Int) + 1) = ((i + 1 : Nat) : Int) := by rw [IntWalk.wrap64_in _ ⟨by omega, by omega⟩]; omega
    have next : ∀ (kk : Nat) (u : List UInt8), 140 * d + m + 10 < kk → u.length ≤ 2 → tb p c (decide (i = 0)) b = u → ∃ k', m < k' ∧ groatref04_text.l0 kk (nums8 B) n' (acc ++ nums8 u) ((i + 1 : Nat) : Int) p n c = endT k' (nums8 B) n' (strOfNums (acc ++ nums8 (decL p c (decide (i = 0)) (B.drop i)))) p n c := by
      intro kk u hkk hu htb
      obtain ⟨k', h1, h2⟩ := text_loop B hB n' p n c m d kk (i + 1) (acc ++ nums8 u) (by omega) hkk (by simp only [List.length_append, nums8, List.length_map]; omega)
      refine ⟨k', h1, ?_⟩
      rw [h2, hdec, htb, hr, hnz]
      simp [nums8]
    rw [text_step _ _ _ _ _ _ _ _ (by omega) (by omega), rd_nums B i b r hbr, hdi]
    cases hraw : rawB p c (decide (i = 0)) with
    | true =>
      have hc := of_decide_eq_true hraw
      have htb : tb p c (decide (i = 0)) b = [hexd (b.toNat / 16), hexd (b.toNat % 16)] := if_pos hc
      have e1 : Int.tdiv (b.toNat : Int) 16 % 256 = ((b.toNat / 16 : Nat) : Int) := by rw [Int.tdiv_eq_ediv_of_nonneg (by omega)]; omega
      have e2 : Int.tmod (b.toNat : Int) 16 = ((b.toNat % 16 : Nat) : Int) := by rw [Int.tmod_eq_emod_of_nonneg (by omega)]; omega
      rw [groatref04_text.j1, if_pos rfl, e1, e2, if_pos (by omega), if_pos (by omega), if_pos (by omega), if_pos (by omega), hex_at _ (by omega) (by omega), hex_at _ (by omega) (by omega)]
      simp only [Option.bind_some]
      rw [if_pos (by simp only [List.length_cons, List.length_nil]; omega), hw]
      exact next _ [hexd (b.toNat / 16), hexd (b.toNat % 16)] (by omega) (by simp) htb
    | false =>
      have hc : ¬ ((c = 2 ∧ (p = 1 ∨ p = 2 ∨ (p = 5 ∧ decide (i = 0) = false))) ∨ (p = 4 ∧ c ≠ 1)) := of_decide_eq_false hraw
      have ht0 : tb p c (decide (i = 0)) b = if c = 3 ∧ p ≠ 4 then [fnd b] else if p = 4 then [if 65 ≤ b.toNat ∧ b.toNat ≤ 70 then b + 32 else b] else [b] := if_neg hc
      rw [groatref04_text.j1, if_neg (by simp)]
      by_cases c3 : c = 3
      · rw [if_pos c3]
        by_cases p4 : p = 4
        · omega
        · rw [show (p != 4) = true by simpa using p4, groatref04_text.j2, if_pos rfl]
          obtain ⟨k', e1, e2⟩ := found_loop (nums8 B) n' acc (i : Int) b p n c (by omega) 128 k 0 0 (by omega) (by omega)
          rw [show ((0 : UInt8).toNat : Int) = 0 from rfl, show (((0 : Nat)) : Int) = 0 from rfl] at e2
          rw [show foundB b 0 0 128 = fnd b from rfl] at e2
          rw [e2, hw]
          rw [if_pos ⟨c3, p4⟩] at ht0
          exact next _ [fnd b] (by omega) (by simp) ht0
      · rw [if_neg c3, groatref04_text.j2, if_neg (by simp)]
        rw [if_neg (fun h => c3 h.1)] at ht0
        by_cases p4 : p = 4
        · rw [if_pos p4] at ht0
          rw [if_pos p4]
          by_cases h65 : (b.toNat : Int) ≥ 65
          · rw [if_pos h65]
            by_cases h70 : (b.toNat : Int) ≤ 70
            · rw [if_pos ⟨by omega, by omega⟩] at ht0
              have hv : ((b.toNat : Int) - 65 + 97) % 256 = ((b + 32).toNat : Int) := by
                rw [UInt8.toNat_add]
                show _ = (((b.toNat + 32) % 256 : Nat) : Int)
                omega
              rw [if_pos h70, if_pos (by omega), hw, hv]
              exact next _ [b + 32] (by omega) (by simp) ht0
            · rw [if_neg (by omega)] at ht0
              rw [if_neg h70, if_pos (by omega), hw]
              exact next _ [b] (by omega) (by simp) ht0
          · rw [if_neg (by omega)] at ht0
            rw [if_neg h65, if_pos (by omega), hw]
            exact next _ [b] (by omega) (by simp) ht0
        · rw [if_neg p4] at ht0
          rw [if_neg p4, if_pos (by omega), hw]
          exact next _ [b] (by omega) (by simp) ht0
def adjL (p n' n c : Int) (L : List UInt8) : List UInt8 :=
  if c = 2 ∧ (p = 1 ∨ p = 2) ∧ (L.length : Int) = n' + 1 then L.drop 1
  else if c = 2 ∧ p = 5 ∧ (L.length : Int) = n + 2 then L.take 1 ++ L.drop 2
  else L
theorem ext_drop (L : List UInt8) (j : Nat) : ((⟨L.toArray⟩ : ByteArray).extract j L.length) = ⟨(L.drop j).toArray⟩ := by
  apply arr_list
  simp [ByteArray.data_extract]
  exact List.take_of_length_le (by simp)
theorem ext_take (L : List UInt8) (j : Nat) : ((⟨L.toArray⟩ : ByteArray).extract 0 j) = ⟨(L.take j).toArray⟩ := by
  apply arr_list
  simp [ByteArray.data_extract]
theorem end_eq (k : Nat) (x : List Int) (n' : Int) (L : List UInt8) (p n c : Int) (hn' : 0 ≤ n' ∧ n' ≤ 100000) (hn : 0 ≤ n ∧ n ≤ 100000) (hL : L.length ≤ 100000) :
    endT (k + 3) x n' ⟨L.toArray⟩ p n c = groatref04_text.j7 k x n' ⟨(adjL p n' n c L).toArray⟩ p n c := by
  have hw1 : wrap64 (n' + 1) = n' + 1 := IntWalk.wrap64_in _ ⟨by omega, by omega⟩
  have hw2 : wrap64 (n + 2) = n + 2 := IntWalk.wrap64_in _ ⟨by omega, by omega⟩
  have hs : ((⟨L.toArray⟩ : ByteArray).size) = L.length := size_arr L
  have tail5 : ∀ (M : List UInt8), M.length ≤ 100000 → groatref04_text.j5 (k + 2) x n' ⟨M.toArray⟩ p n c = groatref04_text.j7 k x n' (if c = 2 ∧ p = 5 ∧ (M.length : Int) = n + 2 then ⟨(M.take 1 ++ M.drop 2).toArray⟩ else ⟨M.toArray⟩) p n c := by
    intro M hM
    have hms : ((⟨M.toArray⟩ : ByteArray).size) = M.length := size_arr M
    rw [groatref04_text.j5]
    by_cases c2 : c = 2
    · rw [if_pos c2]
      by_cases p5 : p = 5
      · rw [if_pos p5, hw2, hms, groatref04_text.j6]
        by_cases hm : (M.length : Int) = n + 2
        · rw [if_pos (by rw [hm]; simp), if_pos (by decide), if_pos (by omega), if_pos (by omega), hms, ext_take, ext_drop]
          rw [if_pos (by rw [size_arr, size_arr]; simp only [List.length_take, List.length_drop]; omega), if_pos (show c = 2 ∧ p = 5 ∧ (M.length : Int) = n + 2 from ⟨c2, p5, hm⟩), ← join_arr]
        · rw [if_neg (by simpa using hm), if_neg (fun h => hm h.2.2)]
      · rw [if_neg p5, groatref04_text.j6, if_neg (by simp), if_neg (fun h => p5 h.2.1)]
    · rw [if_neg c2, groatref04_text.j6, if_neg (by simp), if_neg (fun h => c2 h.1)]
  unfold endT adjL
  rw [hs, hw1]
  by_cases c2 : c = 2
  · rw [if_pos c2]
    by_cases p12 : p = 1 ∨ p = 2
    · have e : (if p = 1 then groatref04_text.j4 (k + 3) x n' ⟨L.toArray⟩ ((L.length : Int) == n' + 1) p n c else (if p = 2 then groatref04_text.j4 (k + 3) x n' ⟨L.toArray⟩ ((L.length : Int) == n' + 1) p n c else groatref04_text.j4 (k + 3) x n' ⟨L.toArray⟩ false p n c)) = groatref04_text.j4 (k + 3) x n' ⟨L.toArray⟩ ((L.length : Int) == n' + 1) p n c := by
        rcases p12 with h | h
        · rw [if_pos h]
        · rw [if_neg (by omega), if_pos h]
      rw [e, groatref04_text.j4]
      by_cases hl : (L.length : Int) = n' + 1
      · rw [if_pos (by rw [hl]; simp), hs, if_pos (by omega), ext_drop, tail5 _ (by rw [List.length_drop]; omega), if_neg (show ¬ (c = 2 ∧ p = 5 ∧ ((L.drop 1).length : Int) = n + 2) by omega), if_pos (show c = 2 ∧ (p = 1 ∨ p = 2) ∧ (L.length : Int) = n' + 1 from ⟨c2, p12, hl⟩)]
      · rw [if_neg (by simpa using hl), tail5 _ hL, if_neg (show ¬ (c = 2 ∧ p = 5 ∧ (L.length : Int) = n + 2) by omega), if_neg (show ¬ (c = 2 ∧ (p = 1 ∨ p = 2) ∧ (L.length : Int) = n' + 1) from fun h => hl h.2.2), if_neg (show ¬ (c = 2 ∧ p = 5 ∧ (L.length : Int) = n + 2) by omega)]
    · rw [if_neg (fun h => p12 (.inl h)), if_neg (fun h => p12 (.inr h)), groatref04_text.j4, if_neg (by simp), tail5 _ hL, if_neg (show ¬ (c = 2 ∧ (p = 1 ∨ p = 2) ∧ (L.length : Int) = n' + 1) from fun h => p12 h.2.1)]
      split <;> rfl
  · rw [if_neg c2, groatref04_text.j4, if_neg (by simp), tail5 _ hL, if_neg (show ¬ (c = 2 ∧ p = 5 ∧ (L.length : Int) = n + 2) from fun h => c2 h.1), if_neg (show ¬ (c = 2 ∧ (p = 1 ∨ p = 2) ∧ (L.length : Int) = n' + 1) from fun h => c2 h.1), if_neg (show ¬ (c = 2 ∧ p = 5 ∧ (L.length : Int) = n + 2) from fun h => c2 h.1)]
/-- What the reference makes of a form's bytes. -/
def refS (p n' n c : Int) (B : List UInt8) : List UInt8 := adjL p n' n c (decL p c true B)
theorem tb_len (p c : Int) (f : Bool) (b : UInt8) : (tb p c f b).length ≤ 2 := by
  unfold tb
  repeat' split
  all_goals simp
theorem dec_len (p c : Int) : ∀ (B : List UInt8) (f : Bool), (decL p c f B).length ≤ 2 * B.length
  | [], _ => by simp [decL]
  | b :: r, f => by
    have h1 := tb_len p c f b
    have h2 := dec_len p c r false
    simp only [decL, List.length_append, List.length_cons]
    omega
theorem refS_len (p n' n c : Int) (B : List UInt8) : (refS p n' n c B).length ≤ 2 * B.length := by
  have h := dec_len p c B true
  unfold refS adjL
  split
  · rw [List.length_drop]; omega
  · split
    · rw [List.length_append, List.length_take, List.length_drop]; omega
    · exact h
theorem text_eq (K : Nat) (hK : 1400000 ≤ K) (B : List UInt8) (hB : B.length ≤ 1000) (n' p n c : Int) (hn' : 0 ≤ n' ∧ n' ≤ 1000) (hm : mayB p n c = true) :
    groatref04_text.f K p n c (nums8 B) n' = (if rightB p n (refS p n' n c B) = true then
      (if p = 2 then (if 0 ≤ wrap64 (((putBytes p c (refS p n' n c B)).length : Int) - (B.length : Int)) then (if wrap64 (((putBytes p c (refS p n' n c B)).length : Int) - (B.length : Int)) ≤ ((putBytes p c (refS p n' n c B)).length : Int) then
        (if (putBytes p c (refS p n' n c B)).drop (wrap64 (((putBytes p c (refS p n' n c B)).length : Int) - (B.length : Int))).toNat = B then some (⟨(refS p n' n c B).toArray⟩, (((refS p n' n c B).length : Int) == n')) else some (⟨(refS p n' n c B).toArray⟩, false)) else none) else none)
       else (if putBytes p c (refS p n' n c B) = B then some (⟨(refS p n' n c B).toArray⟩, true) else some (⟨(refS p n' n c B).toArray⟩, false)))
      else some (⟨#[]⟩, false)) := by
  have hn : 1 ≤ n ∧ n ≤ 64 := by simp [mayB] at hm; omega
  obtain ⟨k', hk', e⟩ := text_loop B hB n' p n c 1200000 B.length K 0 [] (by omega) (by omega) (by simp)
  obtain ⟨k, rfl⟩ : ∃ q, k' = q + 4 := ⟨k' - 4, by omega⟩
  have hlen := refS_len p n' n c B
  have hd := dec_len p c B true
  unfold groatref04_text.f
  rw [show ((0 : Nat) : Int) = 0 from rfl] at e
  rw [e]
  simp only [List.nil_append, List.drop_zero, decide_true]
  rw [str_nums, show k + 4 = (k + 1) + 3 from rfl, end_eq (k + 1) _ n' _ p n c (by omega) (by omega) (by omega)]
  have hS : adjL p n' n c (decL p c true B) = refS p n' n c B := rfl
  rw [hS]
  generalize refS p n' n c B = S at hlen ⊢
  have hSs : (⟨S.toArray⟩ : ByteArray).size = S.length := size_arr S
  rw [groatref04_text.j7, ref_right p n c ⟨S.toArray⟩ (by rw [hSs]; omega) hn k (by rw [hSs]; omega)]
  simp only [Option.bind_some]
  by_cases hr : rightB p n S = true
  · have hck : checkR p n c S = 0 := by simp [checkR, hm, hr]
    rw [if_pos hr, if_pos hr, ref_bytes (p := p) (n := n) (c := c) ⟨S.toArray⟩ (by rw [hSs]; omega) (by simpa using hck) k (by omega)]
    simp only [Option.bind_some]
    rw [hSs]
    have hl1 : (nums8 (putBytes p c S)).length = (putBytes p c S).length := by simp [nums8]
    have hl2 : (nums8 B).length = B.length := by simp [nums8]
    rw [hl1, hl2]
    have hdr : ∀ j : Nat, (strOfNums ((nums8 (putBytes p c S)).drop j)).toList = (putBytes p c S).drop j := by
      intro j
      have : (nums8 (putBytes p c S)).drop j = nums8 ((putBytes p c S).drop j) := by simp [nums8]
      rw [this, str_nums, ByteArray.toList_eq]
    rw [hdr, str_nums, str_nums]
    simp only [ByteArray.toList_eq]
  · rw [if_neg hr, if_neg hr]
/-! What was written is read again. -/
theorem dec_one {p c : Int} {f : UInt8 → UInt8} (h : ∀ b, tb p c false b = [f b]) : ∀ (B : List UInt8), decL p c false B = B.map f
  | [] => rfl
  | b :: r => by
    simp only [decL, List.map_cons]
    rw [h b, dec_one h r]
    rfl
theorem dec_one' {p c : Int} {f : UInt8 → UInt8} (h : ∀ g b, tb p c g b = [f b]) : ∀ (B : List UInt8), decL p c true B = B.map f
  | [] => rfl
  | b :: r => by
    simp only [decL, List.map_cons]
    rw [h true b, dec_one (fun b => h false b) r]
    rfl
theorem dec_raw {p c : Int} (h : ∀ b, tb p c false b = [hexd (b.toNat / 16), hexd (b.toNat % 16)]) : ∀ (B : List UInt8), decL p c false B = unpackL B
  | [] => rfl
  | b :: r => by
    simp only [decL]
    rw [h b, dec_raw h r]
    simp [unpackL]
theorem dec_raw' {p c : Int} (h : ∀ g b, tb p c g b = [hexd (b.toNat / 16), hexd (b.toNat % 16)]) : ∀ (B : List UInt8), decL p c true B = unpackL B
  | [] => rfl
  | b :: r => by
    simp only [decL]
    rw [h true b, dec_raw (fun b => h false b) r]
    simp [unpackL]
set_option maxRecDepth 100000 in
theorem found_signs : ∀ i : Fin 37, foundB (signB 3 (signsL.getD i.1 0)) 0 0 128 = signsL.getD i.1 0 := by decide +kernel
theorem found_back {b : UInt8} (h : inRow signsL b = true) : fnd (signB 3 b) = b := by
  unfold fnd
  obtain ⟨i, _, hil, hc⟩ := index_get (fr := signsL) (c := b) (by simpa [inRow] using h)
  have := found_signs ⟨i, hil⟩
  simp only at this
  rw [hc] at this
  exact this
set_option maxRecDepth 100000 in
theorem low_back {b : UInt8} (h : inRow hexL b = true) : (if 65 ≤ (highC b).toNat ∧ (highC b).toNat ≤ 70 then highC b + 32 else highC b) = b := by
  have key : ∀ i : Fin 16, (if 65 ≤ (highC (hexL.getD i.1 0)).toNat ∧ (highC (hexL.getD i.1 0)).toNat ≤ 70 then highC (hexL.getD i.1 0) + 32 else highC (hexL.getD i.1 0)) = hexL.getD i.1 0 := by decide
  obtain ⟨i, _, hil, hc⟩ := index_get (fr := hexL) (c := b) (by simpa [inRow] using h)
  have := key ⟨i, hil⟩
  simp only at this
  rw [hc] at this
  exact this
theorem map_id_of {f : UInt8 → UInt8} {l : List UInt8} (h : ∀ b ∈ l, f b = b) : l.map f = l := by
  induction l with
  | nil => rfl
  | cons a l ih =>
    rw [List.map_cons, h a (by simp), ih (fun b hb => h b (by simp [hb]))]
/-- Digits (kinds 1 and 2): what is read, with the right number of them. -/
theorem dec_digits {p c : Int} (hp : p = 1 ∨ p = 2) (hc : 1 ≤ c ∧ c ≤ 3) (n : Int) {t : List UInt8} (h : t.all (inRow tenL) = true) : refS p t.length n c ((digitsC c).put t) = t := by
  have hp5 : ¬ p = 5 := by omega
  have hp4 : ¬ p = 4 := by omega
  unfold refS
  by_cases c2 : c = 2
  · subst c2
    have hput : (digitsC 2).put t = packE (evened t) := rfl
    have hu : unpackL (packE (evened t)) = evened t := unpack_pack ((evened t).length / 2) _ (by have := evened_even t; omega) (evened_hex (fun b hb => ten_hex (List.all_eq_true.1 h b hb)))
    have htb : ∀ g b, tb p 2 g b = [hexd (b.toNat / 16), hexd (b.toNat % 16)] := by
      intro g b
      unfold tb
      rw [if_pos (.inl ⟨rfl, by omega⟩)]
    rw [hput, dec_raw' htb, hu]
    unfold adjL evened
    by_cases ho : t.length % 2 = 1
    · rw [if_pos ho, if_pos ⟨rfl, hp, by simp⟩]
      rfl
    · rw [if_neg ho, if_neg (by omega), if_neg (by omega)]
  · rw [digits_map (by omega) h]
    have hadj : ∀ L, adjL p t.length n c L = L := fun L => by unfold adjL; rw [if_neg (by omega), if_neg (by omega)]
    rw [hadj]
    by_cases c3 : c = 3
    · subst c3
      have htb : ∀ g b, tb p 3 g b = [fnd b] := by
        intro g b
        unfold tb
        rw [if_neg (by omega), if_pos ⟨rfl, hp4⟩]
      rw [dec_one' htb, List.map_map]
      refine map_id_of fun b hb => ?_
      simp only [Function.comp_apply]
      exact found_back (ten_signs (List.all_eq_true.1 h b hb)).1
    · have htb : ∀ g b, tb p c g b = [b] := by
        intro g b
        unfold tb
        rw [if_neg (by omega), if_neg (by omega), if_neg hp4]
      rw [dec_one' (f := id) htb, List.map_id]
      exact map_id_of fun b _ => by unfold signB; rw [if_neg c3]
theorem dec_put {p n c : Int} (hp : p ≠ 2) (hc : 1 ≤ c ∧ c ≤ 3) {t : List UInt8} (h : Fit p n c t) : refS p n n c (putBytes p c t) = t := by
  obtain ⟨hn, ⟨rfl, a, r, rfl, ha, hr, hlen⟩ | ⟨rfl, h0, h1, hr⟩ | ⟨rfl, hr, hlen⟩ | ⟨rfl, hr, hlen⟩ | ⟨rfl, hr, hlen⟩⟩ := h
  · have hput : putBytes 5 c (a :: r) = [a].map (signB c) ++ (digitsC c).put r := by
      rw [← letters_map hc ha]
      rfl
    have has : inRow signsL a = true := by simpa using ha
    rw [hput]
    unfold refS
    by_cases c2 : c = 2
    · subst c2
      have hpt : (digitsC 2).put r = packE (evened r) := rfl
      have hu : unpackL (packE (evened r)) = evened r := unpack_pack ((evened r).length / 2) _ (by have := evened_even r; omega) (evened_hex (fun b hb => ten_hex (List.all_eq_true.1 hr b hb)))
      have ht1 : tb 5 2 true a = [a] := by
        unfold tb
        rw [if_neg (by simp), if_neg (by omega), if_neg (by omega)]
      have ht2 : ∀ b, tb 5 2 false b = [hexd (b.toNat / 16), hexd (b.toNat % 16)] := by
        intro b
        unfold tb
        rw [if_pos (.inl ⟨rfl, .inr (.inr ⟨rfl, rfl⟩)⟩)]
      have hs : signB 2 a = a := by unfold signB; rw [if_neg (by decide)]
      have hd : decL 5 2 true ([a].map (signB 2) ++ (digitsC 2).put r) = a :: evened r := by
        simp only [List.map_cons, List.map_nil, List.cons_append, List.nil_append, decL]
        rw [hs, ht1, hpt, dec_raw ht2, hu]
        rfl
      rw [hd]
      unfold adjL evened
      by_cases ho : r.length % 2 = 1
      · rw [if_pos ho, if_neg (by omega), if_pos ⟨rfl, rfl, by simp only [List.length_cons]; omega⟩]
        rfl
      · rw [if_neg ho, if_neg (by omega), if_neg (by simp only [List.length_cons]; omega)]
    · have hadj : ∀ L, adjL 5 n n c L = L := fun L => by unfold adjL; rw [if_neg (by omega), if_neg (by omega)]
      rw [hadj, digits_map (by omega) hr, ← List.map_append]
      have hall : ([a] ++ r).all (inRow signsL) = true := by
        rw [List.all_append, ha, ten_all hr]
        rfl
      by_cases c3 : c = 3
      · subst c3
        have htb : ∀ g b, tb 5 3 g b = [fnd b] := by
          intro g b
          unfold tb
          rw [if_neg (by omega), if_pos ⟨rfl, by decide⟩]
        rw [dec_one' htb, List.map_map]
        refine map_id_of fun b hb => ?_
        simp only [Function.comp_apply]
        exact found_back (List.all_eq_true.1 hall b hb)
      · have htb : ∀ g b, tb 5 c g b = [b] := by
          intro g b
          unfold tb
          rw [if_neg (by omega), if_neg (by omega), if_neg (by decide)]
        rw [dec_one' (f := id) htb, List.map_id]
        exact map_id_of fun b _ => by unfold signB; rw [if_neg c3]
  · exact absurd rfl hp
  · have := dec_digits (p := 1) (c := c) (.inl rfl) hc n hr
    rw [hlen] at this
    exact this
  · have hput : putBytes 3 c t = t.map (signB c) := (letters_map hc hr)
    have hadj : ∀ L, adjL 3 n n c L = L := fun L => by unfold adjL; rw [if_neg (by omega), if_neg (by omega)]
    rw [hput]
    unfold refS
    rw [hadj]
    by_cases c3 : c = 3
    · subst c3
      have htb : ∀ g b, tb 3 3 g b = [fnd b] := by
        intro g b
        unfold tb
        rw [if_neg (by omega), if_pos ⟨rfl, by decide⟩]
      rw [dec_one' htb, List.map_map]
      refine map_id_of fun b hb => ?_
      simp only [Function.comp_apply]
      exact found_back (List.all_eq_true.1 hr b hb)
    · have htb : ∀ g b, tb 3 c g b = [b] := by
        intro g b
        unfold tb
        rw [if_neg (by omega), if_neg (by omega), if_neg (by decide)]
      rw [dec_one' (f := id) htb, List.map_id]
      exact map_id_of fun b _ => by unfold signB; rw [if_neg c3]
  · have hadj : ∀ L, adjL 4 n n c L = L := fun L => by unfold adjL; rw [if_neg (by omega), if_neg (by omega)]
    unfold refS
    rw [hadj]
    by_cases c1 : c = 1
    · subst c1
      have hput : putBytes 4 1 t = t.map highC := by
        show (turnL hexL highB.data.toList t).getD [] = _
        rw [turn_map hr]
        rfl
      have htb : ∀ g b, tb 4 1 g b = [if 65 ≤ b.toNat ∧ b.toNat ≤ 70 then b + 32 else b] := by
        intro g b
        unfold tb
        rw [if_neg (by omega), if_neg (by omega), if_pos rfl]
      rw [hput, dec_one' htb, List.map_map]
      exact map_id_of fun b hb => low_back (List.all_eq_true.1 hr b hb)
    · have hput : putBytes 4 c t = packE (evened t) := by
        show (rawC c).put t = _
        unfold rawC
        rw [if_neg c1]
        rfl
      have hu : unpackL (packE (evened t)) = evened t := unpack_pack ((evened t).length / 2) _ (by have := evened_even t; omega) (evened_hex (fun b hb => show Lib.indexByte hexL b ≠ -1 from of_decide_eq_true (List.all_eq_true.1 hr b hb)))
      have htb : ∀ g b, tb 4 c g b = [hexd (b.toNat / 16), hexd (b.toNat % 16)] := by
        intro g b
        unfold tb
        rw [if_pos (.inr ⟨rfl, c1⟩)]
      rw [hput, dec_raw' htb, hu]
      unfold evened
      rw [if_neg (by omega)]

def szN (p n c m : Int) : Int :=
  if p = 4 then (if c = 1 then 2 * n else n) else if p = 3 then n else if p = 5 then (if c = 2 then 1 + (n + 1) / 2 else 1 + n) else if c = 2 then (m + 1) / 2 else m
theorem ref_size (p n c m : Int) (hn : 0 ≤ n ∧ n ≤ 100) (hm : 0 ≤ m ∧ m ≤ 100000) : groatref04_size.f p n c m = some (szN p n c m) := by
  have w1 : wrap64 (2 * n) = 2 * n := IntWalk.wrap64_in _ ⟨by omega, by omega⟩
  have w2 : wrap64 (n + 1) = n + 1 := IntWalk.wrap64_in _ ⟨by omega, by omega⟩
  have w3 : wrap64 (m + 1) = m + 1 := IntWalk.wrap64_in _ ⟨by omega, by omega⟩
  have w4 : wrap64 (1 + n) = 1 + n := IntWalk.wrap64_in _ ⟨by omega, by omega⟩
  have t1 : Int.tdiv (n + 1) 2 = (n + 1) / 2 := Int.tdiv_eq_ediv_of_nonneg (by omega)
  have t2 : Int.tdiv (m + 1) 2 = (m + 1) / 2 := Int.tdiv_eq_ediv_of_nonneg (by omega)
  have w5 : wrap64 ((n + 1) / 2) = (n + 1) / 2 := IntWalk.wrap64_in _ ⟨by omega, by omega⟩
  have w6 : wrap64 ((m + 1) / 2) = (m + 1) / 2 := IntWalk.wrap64_in _ ⟨by omega, by omega⟩
  have w7 : wrap64 (1 + (n + 1) / 2) = 1 + (n + 1) / 2 := IntWalk.wrap64_in _ ⟨by omega, by omega⟩
  unfold groatref04_size.f szN
  rw [w1, w2, w3, t1, t2, w5, w6, w7, w4]
  repeat' split
  all_goals rfl
theorem size_l (c m : Int) : (lettersC c).size m = m := by
  unfold lettersC
  split
  · rfl
  · split <;> rfl
theorem size_d (c m : Int) : (digitsC c).size m = if c = 2 then (m + 1) / 2 else m := by
  unfold digitsC
  by_cases h1 : c = 1
  · rw [if_pos h1, if_neg (by omega)]
    rfl
  · rw [if_neg h1]
    by_cases h2 : c = 2
    · rw [if_pos h2, if_pos h2]
      rfl
    · rw [if_neg h2, if_neg h2]
      rfl
theorem size_r (c m : Int) : (rawC c).size m = if c = 1 then m else (m + 1) / 2 := by
  unfold rawC
  by_cases h1 : c = 1
  · rw [if_pos h1, if_pos h1]
    rfl
  · rw [if_neg h1, if_neg h1]
    rfl
theorem sz_bytes {p n c m m' : Int} (hp : p ≠ 2) (hm : mayB p n c = true) (hmn : m = n) : szN p n c m = bytesN p n c m' := by
  have h : 1 ≤ p ∧ p ≤ 5 ∧ 1 ≤ n ∧ n ≤ 64 ∧ 1 ≤ c ∧ c ≤ 3 := by simpa [mayB] using hm
  unfold szN bytesN
  rw [size_l, size_l, size_d, size_d, size_d, size_r]
  rcases (show p = 1 ∨ p = 3 ∨ p = 4 ∨ p = 5 by omega) with rfl | rfl | rfl | rfl
  · simp [hmn]
  · simp
  · by_cases c1 : c = 1
    · simp [c1]
    · simp only [if_neg c1]
      simp
      omega
  · by_cases c2 : c = 2
    · simp [c2]
    · simp [c2]
theorem next_err {ck : CK} {n : Int} {l : List UInt8} {e : Int} (he : e = 0 ∨ e = 42) (h : ¬ (l.length : Int) < ck.size n) : (nextL ck n l e).2.2 = 0 ∨ (nextL ck n l e).2.2 = 42 := by
  unfold nextL
  by_cases h0 : e ≠ 0
  · rw [if_pos h0]
    exact he
  · rw [if_neg h0, if_neg h]
    split
    · exact .inr rfl
    · exact .inl rfl
theorem textL_short {p n c : Int} (hp : p ≠ 2) (hm : mayB p n c = true) {L : List UInt8} (h : (L.length : Int) < bytesN p n c 0) : (textL p n c L).2.2 = 43 := by
  have h' : 1 ≤ p ∧ p ≤ 5 ∧ 1 ≤ n ∧ n ≤ 64 ∧ 1 ≤ c ∧ c ≤ 3 := by simpa [mayB] using hm
  rcases (show p = 1 ∨ p = 3 ∨ p = 4 ∨ p = 5 by omega) with rfl | rfl | rfl | rfl
  · have e : textL 1 n c L = nextL (digitsC c) n L 0 := rfl
    rw [e, next_short h]
  · have e : textL 3 n c L = nextL (lettersC c) n L 0 := rfl
    rw [e, next_short h]
  · have e : textL 4 n c L = nextL (rawC c) (2 * n) L 0 := rfl
    rw [e, next_short h]
  · unfold textL
    rw [if_pos rfl, if_pos (show (L.length : Int) < (lettersC c).size 1 + (digitsC c).size n from h)]
theorem textL_err {p n c : Int} (hp : p ≠ 2) (hm : mayB p n c = true) {L : List UInt8} (h : ¬ (L.length : Int) < bytesN p n c 0) : (textL p n c L).2.2 = 0 ∨ (textL p n c L).2.2 = 42 := by
  have h' : 1 ≤ p ∧ p ≤ 5 ∧ 1 ≤ n ∧ n ≤ 64 ∧ 1 ≤ c ∧ c ≤ 3 := by simpa [mayB] using hm
  rcases (show p = 1 ∨ p = 3 ∨ p = 4 ∨ p = 5 by omega) with rfl | rfl | rfl | rfl
  · exact next_err (ck := digitsC c) (n := n) (l := L) (.inl rfl) h
  · exact next_err (ck := lettersC c) (n := n) (l := L) (.inl rfl) h
  · exact next_err (ck := rawC c) (n := 2 * n) (l := L) (.inl rfl) h
  · have h2 : ¬ (L.length : Int) < (lettersC c).size 1 + (digitsC c).size n := h
    have hs1 := size_nonneg (digitsC c) (n := n) (by omega)
    have e1 := next_err (ck := lettersC c) (n := 1) (l := L) (.inl rfl) (by omega)
    have e2 : (nextL (digitsC c) n (nextL (lettersC c) 1 L 0).2.1 (nextL (lettersC c) 1 L 0).2.2).2.2 = 0 ∨ (nextL (digitsC c) n (nextL (lettersC c) 1 L 0).2.1 (nextL (lettersC c) 1 L 0).2.2).2.2 = 42 := by
      rcases e1 with e1 | e1
      · obtain ⟨_, _, hl, hb⟩ := next_zero (good_letters c).1 (n := 1) (by decide) e1
        have hlen := congrArg List.length hb
        rw [List.length_append] at hlen
        have hp := put_len (good_letters c).1 (next_zero (good_letters c).1 (n := 1) (by decide) e1).2.1
        rw [hl] at hp
        refine next_err (.inl e1) (by omega)
      · right
        rw [e1]
        unfold nextL
        rw [if_pos (by decide)]
    have e : (textL 5 n c L).2.2 = (nextL (digitsC c) n (nextL (lettersC c) 1 L 0).2.1 (nextL (lettersC c) 1 L 0).2.2).2.2 := by
      unfold textL
      rw [if_pos rfl, if_neg h2]
    rw [e]
    exact e2
theorem strL (L : List UInt8) : (strOfNums (nums8 L)).data.toList = L := by rw [str_nums]
theorem takeR_err {p n c : Int} {L : List UInt8} (hm : mayB p n c = true) (h : (textL p n c L).2.2 = 0 ∨ (textL p n c L).2.2 = 42) : takeR (nums8 L) p n c = (⟨#[]⟩, [], 42) ∨ (takeR (nums8 L) p n c).2.2 = 0 := by
  unfold takeR
  rw [if_pos hm, strL]
  rcases h with h | h
  · rw [if_neg (by rw [h]; simp)]
    split
    · exact .inr rfl
    · exact .inl rfl
  · rw [if_pos (by rw [h]; decide), h]
    exact .inl rfl
theorem take_short {p n c : Int} (hp : p ≠ 2) (hm : mayB p n c = true) {L : List UInt8} (h : (L.length : Int) < szN p n c n) : takeR (nums8 L) p n c = (⟨#[]⟩, [], 43) := by
  have h43 := textL_short hp hm (L := L) (by rw [← sz_bytes hp hm rfl]; exact h)
  unfold takeR
  rw [if_pos hm, strL, if_pos (by rw [h43]; decide), h43]
theorem take_long {p n c : Int} (hp : p ≠ 2) (hm : mayB p n c = true) {L : List UInt8} (sz : Nat) (hsz : szN p n c n = (sz : Int)) (h : sz ≤ L.length) :
    ∃ s okb, groatref04_text.f 1500000 p n c (nums8 (L.take sz)) n = some (s, okb) ∧ takeR (nums8 L) p n c = if okb = true then (s, nums8 (L.drop sz), 0) else (⟨#[]⟩, [], 42) := by
  have h' : 1 ≤ p ∧ p ≤ 5 ∧ 1 ≤ n ∧ n ≤ 64 ∧ 1 ≤ c ∧ c ≤ 3 := by simpa [mayB] using hm
  have hsz2 : (sz : Int) = bytesN p n c 0 := by rw [← hsz]; exact sz_bytes hp hm rfl
  have hszb : sz ≤ 200 := by
    unfold szN at hsz
    repeat' split at hsz
    all_goals omega
  have hBl : (L.take sz).length = sz := by rw [List.length_take]; omega
  have he := takeR_err hm (textL_err hp hm (L := L) (by omega))
  have key : (takeR (nums8 L) p n c).2.2 = 0 → rightB p n (refS p n n c (L.take sz)) = true ∧ putBytes p c (refS p n n c (L.take sz)) = L.take sz := by
    intro h0
    obtain ⟨hck, hL⟩ := takeR_zero h0
    rw [strL] at hL
    have hfit := fit_of hck
    have hlen := bytes_len hfit
    have hb0 : bytesN p n c (takeR (nums8 L) p n c).1.data.toList.length = bytesN p n c 0 := by
      unfold bytesN
      rw [if_neg hp, if_neg hp]
    have hB : L.take sz = putBytes p c (takeR (nums8 L) p n c).1.data.toList := by
      have h1 := congrArg (List.take sz) hL
      rw [List.take_append_of_le_length (by omega), List.take_of_length_le (l := putBytes p c (takeR (nums8 L) p n c).1.data.toList) (by omega)] at h1
      exact h1
    rw [hB, dec_put hp ⟨h'.2.2.2.2.1, h'.2.2.2.2.2⟩ hfit]
    exact ⟨(check_zero hck).2, rfl⟩
  have ht := text_eq 1500000 (by decide) (L.take sz) (by omega) n p n c (by omega) hm
  rw [if_neg hp] at ht
  by_cases hr : rightB p n (refS p n n c (L.take sz)) = true
  · rw [if_pos hr] at ht
    by_cases hB : putBytes p c (refS p n n c (L.take sz)) = L.take sz
    · rw [if_pos hB] at ht
      refine ⟨_, true, ht, ?_⟩
      rw [if_pos rfl]
      refine takeR_back (by simp [checkR, hm, hr]) (nums8 L) (L.drop sz) ?_
      rw [strL, hB, List.take_append_drop]
    · rw [if_neg hB] at ht
      refine ⟨_, false, ht, ?_⟩
      rcases he with he | he
      · rw [he]
        rfl
      · exact absurd (key he).2 hB
  · rw [if_neg hr] at ht
    refine ⟨_, false, ht, ?_⟩
    rcases he with he | he
    · rw [he]
      rfl
    · exact absurd (key he).1 hr

/-! Digits with their number ahead (kind 2). -/
theorem ten_value {b : UInt8} (h : inRow tenL b = true) : groatref04_value.f (b.toNat : Int) = some (((b - 48).toNat : Nat) : Int) := by
  obtain ⟨i, hi, rfl⟩ := ten_val h
  have : ∀ i : Fin 10, groatref04_value.f (((UInt8.ofNat (48 + i.1)).toNat : Nat) : Int) = some (((UInt8.ofNat (48 + i.1) - 48).toNat : Nat) : Int) := by decide
  exact this ⟨i, by omega⟩
theorem unpack_len : ∀ B : List UInt8, (unpackL B).length = 2 * B.length
  | [] => rfl
  | b :: r => by
    have h := unpack_len r
    have e : unpackL (b :: r) = [hexd (b.toNat / 16), hexd (b.toNat % 16)] ++ unpackL r := by simp [unpackL]
    rw [e, List.length_append, h]
    simp only [List.length_cons, List.length_nil]
    omega
theorem two_len {n c m : Int} (hc : 1 ≤ c ∧ c ≤ 3) (h1 : 1 ≤ m) {B : List UInt8} (hB : (B.length : Int) = if c = 2 then (m + 1) / 2 else m) : ((refS 2 m n c B).length : Int) = m := by
  unfold refS
  by_cases c2 : c = 2
  · subst c2
    rw [if_pos rfl] at hB
    have htb : ∀ g b, tb 2 2 g b = [hexd (b.toNat / 16), hexd (b.toNat % 16)] := by
      intro g b
      unfold tb
      rw [if_pos (.inl ⟨rfl, by omega⟩)]
    have hu := unpack_len B
    rw [dec_raw' htb]
    unfold adjL
    by_cases ho : ((unpackL B).length : Int) = m + 1
    · rw [if_pos ⟨rfl, .inr rfl, ho⟩, List.length_drop]
      omega
    · rw [if_neg (by omega), if_neg (by omega)]
      omega
  · rw [if_neg c2] at hB
    have hadj : ∀ L, adjL 2 m n c L = L := fun L => by unfold adjL; rw [if_neg (by omega), if_neg (by omega)]
    rw [hadj]
    by_cases c3 : c = 3
    · have htb : ∀ g b, tb 2 c g b = [fnd b] := by
        intro g b
        unfold tb
        rw [if_neg (by omega), if_pos ⟨c3, by decide⟩]
      rw [dec_one' htb, List.length_map]
      exact hB
    · have htb : ∀ g b, tb 2 c g b = [b] := by
        intro g b
        unfold tb
        rw [if_neg (by omega), if_neg (by omega), if_neg (by decide)]
      rw [dec_one' (f := id) htb, List.map_id]
      exact hB
theorem right_two {n : Int} {t : List UInt8} (ha : t.all (inRow tenL) = true) (h1 : 0 < t.length) (h2 : (t.length : Int) ≤ n) : rightB 2 n t = true := by
  unfold rightB ofB
  rw [if_neg (by decide), if_neg (by decide), if_pos rfl, ha, decide_eq_true (⟨h1, h2⟩ : 0 < t.length ∧ (t.length : Int) ≤ n)]
  simp
theorem right_one {t : List UInt8} (ha : t.all (inRow tenL) = true) (h : (t.length : Int) = 2) : rightB 1 2 t = true := by
  unfold rightB ofB
  rw [if_neg (by decide), if_pos rfl, ha]
  simp [h]
theorem two_rest {n c : Int} (hm : mayB 2 n c = true) {r : List UInt8} {m : Int} (h1 : 1 ≤ m) (h2 : m ≤ n) (sz : Nat) (hsz : szN 2 n c m = (sz : Int)) (h : sz ≤ r.length) :
    ∃ S okb, groatref04_text.f 1500000 2 n c (nums8 (r.take sz)) m = some (⟨S.toArray⟩, okb) ∧ (okb = true → nextL (digitsC c) m r 0 = (S, r.drop sz, 0) ∧ rightB 2 n S = true) ∧ (okb = false → nextL (digitsC c) m r 0 = ([], r, 42)) := by
  have h' : (1 : Int) ≤ 2 ∧ (2 : Int) ≤ 5 ∧ 1 ≤ n ∧ n ≤ 64 ∧ 1 ≤ c ∧ c ≤ 3 := by simpa [mayB] using hm
  have hc : 1 ≤ c ∧ c ≤ 3 := h'.2.2.2.2
  have hsd : (digitsC c).size m = (sz : Int) := by rw [size_d, ← hsz]; rfl
  have hsz2 : (sz : Int) = if c = 2 then (m + 1) / 2 else m := by rw [← hsd, size_d]
  have hszb : sz ≤ 200 := by
    split at hsz2 <;> omega
  have hBl : (r.take sz).length = sz := by rw [List.length_take]; omega
  have good := good_digits c
  have ht := text_eq 1500000 (by decide) (r.take sz) (by omega) m 2 n c (by omega) hm
  rw [if_pos rfl] at ht
  have hlS : ((refS 2 m n c (r.take sz)).length : Int) = m := two_len hc h1 (by rw [hBl]; exact hsz2)
  have hnx : (nextL (digitsC c) m r 0).2.2 = 0 ∨ nextL (digitsC c) m r 0 = ([], r, 42) := by
    unfold nextL
    rw [if_neg (by decide), if_neg (by omega)]
    split
    · exact .inr rfl
    · exact .inl rfl
  have zero : (nextL (digitsC c) m r 0).2.2 = 0 → rightB 2 n (refS 2 m n c (r.take sz)) = true ∧ (digitsC c).put (refS 2 m n c (r.take sz)) = r.take sz := by
    intro h0
    obtain ⟨_, ha, hl, hb⟩ := next_zero good.1 (by omega) h0
    rw [good.2] at ha
    have hp := put_len good.1 (all_d (c := c) ha)
    rw [hl] at hp
    have hB : r.take sz = (digitsC c).put (nextL (digitsC c) m r 0).1 := by
      have h1 := congrArg (List.take sz) hb
      rw [List.take_append_of_le_length (by omega), List.take_of_length_le (l := (digitsC c).put (nextL (digitsC c) m r 0).1) (by omega)] at h1
      exact h1
    have hS : refS 2 m n c (r.take sz) = (nextL (digitsC c) m r 0).1 := by
      have := dec_digits (p := 2) (.inr rfl) hc n ha
      rw [hl, ← hB] at this
      exact this
    rw [hS]
    exact ⟨right_two ha (by omega) (by omega), hB.symm⟩
  by_cases hr : rightB 2 n (refS 2 m n c (r.take sz)) = true
  · have hck : checkR 2 n c (refS 2 m n c (r.take sz)) = 0 := by simp [checkR, hm, hr]
    have hsmall := bytes_small (fit_of hck)
    have hall : (refS 2 m n c (r.take sz)).all (inRow tenL) = true := by
      obtain ⟨_, hf⟩ := fit_of hck
      rcases hf with ⟨h, _⟩ | ⟨_, _, _, hx⟩ | ⟨h, _⟩ | ⟨h, _⟩ | ⟨h, _⟩
      · omega
      · exact hx
      · omega
      · omega
      · omega
    have hpl := put_len good.1 (all_d (c := c) hall)
    rw [hlS, hsd] at hpl
    have hW : putBytes 2 c (refS 2 m n c (r.take sz)) = (digitsC c).put (told (refS 2 m n c (r.take sz)).length) ++ (digitsC c).put (refS 2 m n c (r.take sz)) := rfl
    have hWl : (putBytes 2 c (refS 2 m n c (r.take sz))).length = ((digitsC c).put (told (refS 2 m n c (r.take sz)).length)).length + sz := by
      rw [hW, List.length_append]; omega
    rw [if_pos hr, hBl, IntWalk.wrap64_in _ ⟨by omega, by omega⟩, if_pos (by omega), if_pos (by omega),
      show (((putBytes 2 c (refS 2 m n c (r.take sz))).length : Int) - (sz : Int)).toNat = ((digitsC c).put (told (refS 2 m n c (r.take sz)).length)).length by omega,
      show (putBytes 2 c (refS 2 m n c (r.take sz))).drop ((digitsC c).put (told (refS 2 m n c (r.take sz)).length)).length = (digitsC c).put (refS 2 m n c (r.take sz)) by rw [hW, List.drop_left]] at ht
    by_cases hB : (digitsC c).put (refS 2 m n c (r.take sz)) = r.take sz
    · rw [if_pos hB, hlS] at ht
      refine ⟨_, _, ht, fun _ => ⟨?_, hr⟩, fun h => ?_⟩
      · have := next_put good.1 (l := refS 2 m n c (r.take sz)) (r := r.drop sz) (all_d hall) (n := m) hlS
        rw [hB, List.take_append_drop] at this
        exact this
      · simp at h
    · rw [if_neg hB] at ht
      refine ⟨_, _, ht, fun h => by simp at h, fun _ => ?_⟩
      exact hnx.resolve_left fun h0 => hB (zero h0).2
  · rw [if_neg hr] at ht
    refine ⟨[], false, ht, fun h => by simp at h, fun _ => ?_⟩
    exact hnx.resolve_left fun h0 => hr (zero h0).1
theorem two_short {c m : Int} {r : List UInt8} {n : Int} (h : (r.length : Int) < szN 2 n c m) : nextL (digitsC c) m r 0 = ([], r, 43) := by
  refine next_short ?_
  rw [size_d]
  exact h
/-- What Take answers of kind 2, by what stands ahead. -/
theorem two_head {n c : Int} (hm : mayB 2 n c = true) (L : List UInt8) :
    ((takeR (nums8 L) 1 2 c).2.2 ≠ 0 ∧ takeR (nums8 L) 2 n c = (⟨#[]⟩, [], (takeR (nums8 L) 1 2 c).2.2)) ∨
    (∃ x y : UInt8, ∃ r : List UInt8, takeR (nums8 L) 1 2 c = (⟨#[x, y]⟩, nums8 r, 0) ∧ r.length ≤ L.length ∧ inRow tenL x = true ∧ inRow tenL y = true ∧
      takeR (nums8 L) 2 n c = if toldN [x, y] < 1 ∨ n < toldN [x, y] then (⟨#[]⟩, [], 42) else
        if (nextL (digitsC c) (toldN [x, y]) r 0).2.2 ≠ 0 then (⟨#[]⟩, [], (nextL (digitsC c) (toldN [x, y]) r 0).2.2)
        else if rightB 2 n (nextL (digitsC c) (toldN [x, y]) r 0).1 = true then (⟨(nextL (digitsC c) (toldN [x, y]) r 0).1.toArray⟩, nums8 (nextL (digitsC c) (toldN [x, y]) r 0).2.1, 0)
        else (⟨#[]⟩, [], 42)) := by
  have h' : (1 : Int) ≤ 2 ∧ (2 : Int) ≤ 5 ∧ 1 ≤ n ∧ n ≤ 64 ∧ 1 ≤ c ∧ c ≤ 3 := by simpa [mayB] using hm
  have hm1 : mayB 1 2 c = true := by
    unfold mayB
    exact decide_eq_true ⟨by decide, by decide, by decide, by decide, h'.2.2.2.2.1, h'.2.2.2.2.2⟩
  have good := good_digits c
  have t1 : textL 1 2 c L = nextL (digitsC c) 2 L 0 := rfl
  by_cases h0 : (nextL (digitsC c) 2 L 0).2.2 = 0
  · right
    obtain ⟨_, ha, hl, hb⟩ := next_zero good.1 (by decide) h0
    have hrl : (nextL (digitsC c) 2 L 0).2.1.length ≤ L.length := by
      have := congrArg List.length hb
      rw [List.length_append] at this
      omega
    clear hb
    rw [good.2] at ha
    have t2 : textL 2 n c L = nextL (digitsC c) (toldN (nextL (digitsC c) 2 L 0).1) (nextL (digitsC c) 2 L 0).2.1 (if toldN (nextL (digitsC c) 2 L 0).1 < 1 ∨ n < toldN (nextL (digitsC c) 2 L 0).1 then 42 else 0) := by
      unfold textL
      rw [if_neg (by decide), if_pos rfl, if_neg (by simpa using h0)]
    have hr := right_one ha hl
    have e1 : takeR (nums8 L) 1 2 c = (⟨(nextL (digitsC c) 2 L 0).1.toArray⟩, nums8 (nextL (digitsC c) 2 L 0).2.1, 0) := by
      unfold takeR
      rw [if_pos hm1, strL, t1, if_neg (by simpa using h0), if_pos hr]
    have e2 : takeR (nums8 L) 2 n c = if (textL 2 n c L).2.2 ≠ 0 then (⟨#[]⟩, [], (textL 2 n c L).2.2) else if rightB 2 n (textL 2 n c L).1 = true then (⟨(textL 2 n c L).1.toArray⟩, nums8 (textL 2 n c L).2.1, 0) else (⟨#[]⟩, [], 42) := by
      unfold takeR
      rw [if_pos hm, strL]
    rw [t2] at e2
    generalize (nextL (digitsC c) 2 L 0).2.1 = r at e1 e2 hrl
    generalize (nextL (digitsC c) 2 L 0).1 = t at e1 e2 ha hl
    obtain ⟨x, y, rfl⟩ : ∃ x y, t = [x, y] := by
      have h2 : t.length = 2 := by omega
      match t, h2 with
      | [x, y], _ => exact ⟨x, y, rfl⟩
    simp only [List.all_cons, List.all_nil, Bool.and_true, Bool.and_eq_true] at ha
    refine ⟨x, y, r, e1, hrl, ha.1, ha.2, ?_⟩
    rw [e2]
    by_cases hx : toldN [x, y] < 1 ∨ n < toldN [x, y]
    · rw [if_pos hx, if_pos hx]
      have : nextL (digitsC c) (toldN [x, y]) r 42 = ([], r, 42) := by
        unfold nextL
        rw [if_pos (by decide)]
      rw [this, if_pos (show (42 : Int) ≠ 0 by decide)]
    · rw [if_neg hx, if_neg hx]
  · left
    have e1 : takeR (nums8 L) 1 2 c = (⟨#[]⟩, [], (nextL (digitsC c) 2 L 0).2.2) := by
      unfold takeR
      rw [if_pos hm1, strL, t1, if_pos h0]
    have t2 : textL 2 n c L = ([], (nextL (digitsC c) 2 L 0).2) := by
      unfold textL
      rw [if_neg (by decide), if_pos rfl, if_pos h0]
    refine ⟨by rw [e1]; exact h0, ?_⟩
    rw [e1]
    unfold takeR
    rw [if_pos hm, strL, t2, if_pos h0]

end Go.Proofs.Ytcgfbdleapjigaa.reft
