/- What the reference writes of a field: the plain law, and its contract. Conditions: as each theorem says. -/
import Derived.Test.YtcgfbdleapjigaaPFieldPutsx4
import Derived.Test.YtcgfbdleapjigaaFieldLaw2
namespace Go.Proofs.Ytcgfbdleapjigaa.refp
open Go.RowKit Go.Proofs.YtcgfbdleapjigaaW.PrintWords Go.Proofs.YtcgfbdleapjigaaW.PrintLast Go.Proofs.Ytcgfbdleapjigaa.PFieldPuts Go.Proofs.Ytcgfbdleapjigaa.fieldp Go.Proofs.Ytcgfbdleapjigaa.fieldw Go.Proofs.Ytcgfbdleapjigaa.fieldl

/-! What the reference says of a text. -/
theorem drop_bt (x : ByteArray) (i : Int) (h0 : 0 ≤ i) (h1 : i < (x.size : Int)) : ∃ c : UInt8, x.data.toList.drop i.toNat = c :: x.data.toList.drop (i + 1).toNat ∧ bt x i = (c.toNat : Int) := by
  have hlt : i.toNat < x.size := by omega
  refine ⟨x[i.toNat], ?_, (bt_at x i hlt).symm⟩
  rw [show (i + 1).toNat = i.toNat + 1 by omega]
  exact List.drop_eq_getElem_cons (by rw [size_list]; exact hlt)
set_option maxRecDepth 100000 in
theorem row_ten (c : UInt8) : inRow tenL c = decide (48 ≤ (c.toNat : Int) ∧ (c.toNat : Int) ≤ 57) := by
  have : ∀ i : Fin 256, inRow tenL (UInt8.ofNat i.1) = decide (48 ≤ (i.1 : Int) ∧ (i.1 : Int) ≤ 57) := by decide
  have h := this ⟨c.toNat, c.toNat_lt⟩
  rw [UInt8.ofNat_toNat] at h
  exact h

theorem ref_digit (c : UInt8) : groatref04_digit.f (c.toNat : Int) = some (inRow tenL c) := by
  rw [row_ten]
  unfold groatref04_digit.f
  by_cases h : 48 ≤ (c.toNat : Int)
  · rw [if_pos h]
    by_cases h2 : (c.toNat : Int) ≤ 57
    · simp [h, h2]
    · simp [h2]
  · rw [if_neg h]
    simp [h]

theorem ref_all_loop (x : ByteArray) (hx : x.size ≤ 1048577) : ∀ (d k : Nat) (i : Int), 0 ≤ i → (x.size : Int) - i = d → d < k → groatref04_all.l0 k x i = some ((x.data.toList.drop i.toNat).all (inRow tenL))
  | 0, k, i, h0, hd, hk => by
    obtain ⟨k, rfl⟩ : ∃ m, k = m + 1 := ⟨k - 1, by omega⟩
    rw [groatref04_all.l0, if_neg (by omega), List.drop_of_length_le (by rw [size_list]; omega)]
    rfl
  | d + 1, k, i, h0, hd, hk => by
    obtain ⟨k, rfl⟩ : ∃ m, k = m + 1 := ⟨k - 1, by omega⟩
    have hlt : i < (x.size : Int) := by omega
    obtain ⟨ch, hc, hb⟩ := drop_bt x i h0 hlt
    rw [groatref04_all.l0, if_pos hlt, if_pos h0, hb, ref_digit, hc, List.all_cons]
    simp only [Option.bind_some]
    rw [show wrap64 (i + 1) = i + 1 from IntWalk.wrap64_in _ ⟨by omega, by omega⟩]
    cases h : inRow tenL ch with
    | false => rfl
    | true =>
      rw [if_pos rfl, ref_all_loop x hx d k (i + 1) (by omega) (by omega) (by omega)]
      simp
theorem ref_all (x : ByteArray) (hx : x.size ≤ 1048577) (k : Nat) (hk : x.size < k) : groatref04_all.f k x = some (x.data.toList.all (inRow tenL)) :=
  ref_all_loop x hx x.size k 0 (by decide) (by omega) hk

set_option maxRecDepth 100000 in
theorem row_signs (c : UInt8) : inRow signsL c = (decide (48 ≤ (c.toNat : Int) ∧ (c.toNat : Int) ≤ 57) || decide (65 ≤ (c.toNat : Int) ∧ (c.toNat : Int) ≤ 90) || ((c.toNat : Int) == 32)) := by
  have : ∀ i : Fin 256, inRow signsL (UInt8.ofNat i.1) = (decide (48 ≤ (i.1 : Int) ∧ (i.1 : Int) ≤ 57) || decide (65 ≤ (i.1 : Int) ∧ (i.1 : Int) ≤ 90) || ((i.1 : Int) == 32)) := by decide
  have h := this ⟨c.toNat, c.toNat_lt⟩
  rw [UInt8.ofNat_toNat] at h
  exact h
set_option maxRecDepth 100000 in
theorem row_hex (c : UInt8) : inRow hexL c = (decide (48 ≤ (c.toNat : Int) ∧ (c.toNat : Int) ≤ 57) || decide (97 ≤ (c.toNat : Int) ∧ (c.toNat : Int) ≤ 102)) := by
  have : ∀ i : Fin 256, inRow hexL (UInt8.ofNat i.1) = (decide (48 ≤ (i.1 : Int) ∧ (i.1 : Int) ≤ 57) || decide (97 ≤ (i.1 : Int) ∧ (i.1 : Int) ≤ 102)) := by decide
  have h := this ⟨c.toNat, c.toNat_lt⟩
  rw [UInt8.ofNat_toNat] at h
  exact h
theorem ref_sign (c : UInt8) : groatref04_sign.f (c.toNat : Int) = some (inRow signsL c) := by
  unfold groatref04_sign.f
  rw [ref_digit, row_ten, row_signs]
  simp only [Option.bind_some]
  by_cases h : 48 ≤ (c.toNat : Int) ∧ (c.toNat : Int) ≤ 57
  · rw [decide_eq_true h]; rfl
  · rw [decide_eq_false h, if_neg (by simp)]
    by_cases h2 : 65 ≤ (c.toNat : Int)
    · rw [if_pos h2]
      by_cases h3 : (c.toNat : Int) ≤ 90
      · rw [if_pos h3]; simp [h2, h3]
      · rw [if_neg h3]; simp [h3]
    · rw [if_neg h2]; simp [h2]
theorem ref_hex (c : UInt8) : groatref04_hex.f (c.toNat : Int) = some (inRow hexL c) := by
  unfold groatref04_hex.f
  rw [ref_digit, row_ten, row_hex]
  simp only [Option.bind_some]
  by_cases h : 48 ≤ (c.toNat : Int) ∧ (c.toNat : Int) ≤ 57
  · rw [decide_eq_true h]; rfl
  · rw [decide_eq_false h, if_neg (by simp)]
    by_cases h2 : 97 ≤ (c.toNat : Int)
    · rw [if_pos h2]
      by_cases h3 : (c.toNat : Int) ≤ 102
      · simp [h2, h3]
      · simp [h3]
    · rw [if_neg h2]; simp [h2]
theorem ref_signs_loop (x : ByteArray) (p n c : Int) (hx : x.size ≤ 1048577) : ∀ (d k : Nat) (i : Int), 0 ≤ i → (x.size : Int) - i = d → d < k → groatref04_right.l0 k x i p n c = some ((x.data.toList.drop i.toNat).all (inRow signsL) && ((x.size : Int) == n))
  | 0, k, i, h0, hd, hk => by
    obtain ⟨k, rfl⟩ : ∃ m, k = m + 1 := ⟨k - 1, by omega⟩
    rw [groatref04_right.l0, if_neg (by omega), List.drop_of_length_le (by rw [size_list]; omega)]
    simp
  | d + 1, k, i, h0, hd, hk => by
    obtain ⟨k, rfl⟩ : ∃ m, k = m + 1 := ⟨k - 1, by omega⟩
    have hlt : i < (x.size : Int) := by omega
    obtain ⟨ch, hc, hb⟩ := drop_bt x i h0 hlt
    rw [groatref04_right.l0, if_pos hlt, if_pos h0, hb, ref_sign, hc, List.all_cons]
    simp only [Option.bind_some]
    rw [show wrap64 (i + 1) = i + 1 from IntWalk.wrap64_in _ ⟨by omega, by omega⟩]
    cases h : inRow signsL ch with
    | false => rfl
    | true =>
      rw [if_pos rfl, ref_signs_loop x p n c hx d k (i + 1) (by omega) (by omega) (by omega)]
      simp
theorem ref_hex_loop (x : ByteArray) (p n c : Int) (hx : x.size ≤ 1048577) : ∀ (d k : Nat) (i : Int), 0 ≤ i → (x.size : Int) - i = d → d < k → groatref04_right.l1 k x i p n c = some ((x.data.toList.drop i.toNat).all (inRow hexL) && ((x.size : Int) == wrap64 (2 * n)))
  | 0, k, i, h0, hd, hk => by
    obtain ⟨k, rfl⟩ : ∃ m, k = m + 1 := ⟨k - 1, by omega⟩
    rw [groatref04_right.l1, if_neg (by omega), List.drop_of_length_le (by rw [size_list]; omega)]
    simp
  | d + 1, k, i, h0, hd, hk => by
    obtain ⟨k, rfl⟩ : ∃ m, k = m + 1 := ⟨k - 1, by omega⟩
    have hlt : i < (x.size : Int) := by omega
    obtain ⟨ch, hc, hb⟩ := drop_bt x i h0 hlt
    rw [groatref04_right.l1, if_pos hlt, if_pos h0, hb, ref_hex, hc, List.all_cons]
    simp only [Option.bind_some]
    rw [show wrap64 (i + 1) = i + 1 from IntWalk.wrap64_in _ ⟨by omega, by omega⟩]
    cases h : inRow hexL ch with
    | false => rfl
    | true =>
      rw [if_pos rfl, ref_hex_loop x p n c hx d k (i + 1) (by omega) (by omega) (by omega)]
      simp
theorem ref_right (p n c : Int) (x : ByteArray) (hx : x.size ≤ 1048577) (hn : 1 ≤ n ∧ n ≤ 64) (k : Nat) (hk : x.size < k) : groatref04_right.f k p n c x = some (rightB p n x.data.toList) := by
  have hw1 : wrap64 (n + 1) = n + 1 := IntWalk.wrap64_in _ ⟨by omega, by omega⟩
  have hw2 : wrap64 (2 * n) = 2 * n := IntWalk.wrap64_in _ ⟨by omega, by omega⟩
  have ha := ref_all x hx k hk
  have h21 : ¬ ((2 : Int) = 1) := by decide
  have h51 : ¬ ((5 : Int) = 1) := by decide
  have h52 : ¬ ((5 : Int) = 2) := by decide
  have h31 : ¬ ((3 : Int) = 1) := by decide
  have h32 : ¬ ((3 : Int) = 2) := by decide
  have h35 : ¬ ((3 : Int) = 5) := by decide
  by_cases h1 : p = 1
  · subst h1
    rw [show rightB 1 n x.data.toList = (x.data.toList.all (inRow tenL) && decide ((x.data.toList.length : Int) = n)) from rfl, size_list, groatref04_right.f, if_pos rfl]
    by_cases hs : (x.size : Int) = n
    · rw [if_pos hs, ha]; simp [hs]
    · rw [if_neg hs]; simp [hs]
  · by_cases h2 : p = 2
    · subst h2
      rw [show rightB 2 n x.data.toList = (decide (0 < x.data.toList.length ∧ (x.data.toList.length : Int) ≤ n) && (x.data.toList.all (inRow tenL) && decide ((x.data.toList.length : Int) = x.data.toList.length))) from rfl, size_list, groatref04_right.f, if_neg h21, if_pos rfl]
      by_cases hs : (x.size : Int) ≥ 1
      · rw [if_pos hs]
        by_cases hs2 : (x.size : Int) ≤ n
        · rw [if_pos hs2, ha, decide_eq_true (show 0 < x.size ∧ (x.size : Int) ≤ n by omega)]
          simp
        · rw [if_neg hs2, decide_eq_false (show ¬ (0 < x.size ∧ (x.size : Int) ≤ n) by omega)]
          rfl
      · rw [if_neg hs, decide_eq_false (show ¬ (0 < x.size ∧ (x.size : Int) ≤ n) by omega)]
        rfl
    · by_cases h5 : p = 5
      · subst h5
        rw [groatref04_right.f, if_neg h51, if_neg h52, if_pos rfl, hw1]
        cases hl : x.data.toList with
        | nil =>
          have hz : x.size = 0 := by rw [← size_list, hl]; rfl
          rw [if_neg (by omega)]
          rfl
        | cons a r =>
          have hz := size_cons hl
          have hb : bt x 0 = (a.toNat : Int) := by
            rw [← bt_at x 0 (by show 0 < x.size; omega)]
            have := head_eq hl (by omega)
            rw [← this]
            rfl
          have hr := ref_all (x.extract 1 x.size) (by rw [← size_list, tail_data x a r hl]; omega) k (by rw [← size_list, tail_data x a r hl]; omega)
          rw [tail_data x a r hl] at hr
          rw [show rightB 5 n (a :: r) = ((a == 67 || a == 68) && (r.all (inRow tenL) && decide ((r.length : Int) = n))) from rfl]
          by_cases hs : (x.size : Int) = n + 1
          · have hg : 1 ≤ (x.size : Int) := by omega
            rw [if_pos hs, if_pos (by omega), hb]
            have hrl : (r.length : Int) = n := by omega
            by_cases h67 : a = 67
            · subst h67
              rw [if_pos (show ((67 : UInt8).toNat : Int) = 67 from rfl), if_pos hg, hr]
              simp [hrl]
            · have h67' : ¬ ((a.toNat : Int) = 67) := fun e => h67 (UInt8.toNat_inj.1 (by show a.toNat = 67; omega))
              rw [if_neg h67']
              by_cases h68 : a = 68
              · subst h68
                rw [if_pos (show ((68 : UInt8).toNat : Int) = 68 from rfl), if_pos hg, hr]
                simp [hrl]
              · have h68' : ¬ ((a.toNat : Int) = 68) := fun e => h68 (UInt8.toNat_inj.1 (by show a.toNat = 68; omega))
                rw [if_neg h68']
                simp [h67, h68]
          · rw [if_neg hs]
            have hrl : ¬ (r.length : Int) = n := by omega
            simp [hrl]
      · by_cases h3 : p = 3
        · subst h3
          rw [show rightB 3 n x.data.toList = (x.data.toList.all (inRow signsL) && decide ((x.data.toList.length : Int) = n)) from rfl, size_list, groatref04_right.f, if_neg h31, if_neg h32, if_neg h35, if_pos rfl, ref_signs_loop x _ n c hx x.size k 0 (by decide) (by omega) hk]
          rfl
        · have e : rightB p n x.data.toList = (x.data.toList.all (inRow hexL) && decide ((x.data.toList.length : Int) = 2 * n)) := by simp [rightB, h1, h2, h3, h5, ofB]
          rw [e, size_list, groatref04_right.f, if_neg h1, if_neg h2, if_neg h5, if_neg h3, ref_hex_loop x _ n c hx x.size k 0 (by decide) (by omega) hk, hw2]
          rfl
theorem ref_may (p n c : Int) : groatref04_may.f p n c = some (mayB p n c) := by
  unfold groatref04_may.f mayB
  by_cases a : p ≥ 1 <;> by_cases b : p ≤ 5 <;> by_cases d : n ≥ 1 <;> by_cases e : n ≤ 64 <;> by_cases f : c ≥ 1 <;> by_cases g : c ≤ 3 <;> simp [a, b, d, e, f, g] <;> omega
theorem ref_check (p n c : Int) (x : ByteArray) (hx : x.size ≤ 1048577) (k : Nat) (hk : x.size < k) : groatref04_Check.f k p n c x = some (checkR p n c x.data.toList) := by
  unfold groatref04_Check.f checkR
  rw [ref_may]
  simp only [Option.bind_some]
  cases hm : mayB p n c with
  | false => rfl
  | true =>
    have hn : 1 ≤ n ∧ n ≤ 64 := by simp [mayB] at hm; omega
    rw [if_pos rfl, if_pos rfl, ref_right p n c x hx hn k hk]
    cases rightB p n x.data.toList <;> rfl

/-! What the reference writes. -/
set_option maxRecDepth 100000 in
theorem value_hex {c : UInt8} (h : isHex c) : groatref04_value.f (c.toNat : Int) = some (hv c : Int) := by
  have hr : inRow hexL c = true := decide_eq_true h
  have key : ∀ i : Fin 256, Lib.indexByte hexL (UInt8.ofNat i.1) ≠ -1 → ((48 ≤ (i.1 : Int) ∧ (i.1 : Int) ≤ 57 ∧ ((i.1 : Int) - 48) % 256 = (Lib.indexByte hexL (UInt8.ofNat i.1)).toNat) ∨ (¬ (48 ≤ (i.1 : Int) ∧ (i.1 : Int) ≤ 57) ∧ (((i.1 : Int) - 97) % 256 + 10) = (Lib.indexByte hexL (UInt8.ofNat i.1)).toNat)) := by decide
  have h2 := key ⟨c.toNat, c.toNat_lt⟩ (by rw [UInt8.ofNat_toNat]; exact h)
  simp only [UInt8.ofNat_toNat] at h2
  unfold groatref04_value.f
  rw [ref_digit, row_ten]
  simp only [Option.bind_some]
  rcases h2 with ⟨a, b, e⟩ | ⟨a, e⟩
  · rw [decide_eq_true ⟨a, b⟩, if_pos rfl, e]
    rfl
  · rw [decide_eq_false a, if_neg (by simp), e]
    rfl
theorem packed_loop (x : ByteArray) (hx : x.size ≤ 1048580) (hh : ∀ c ∈ x.data.toList, isHex c) (he : x.size % 2 = 0) : ∀ (d k : Nat) (i : Int) (acc : List Int), 0 ≤ i → i.toNat % 2 = 0 → (x.size : Int) - i = 2 * d → d < k →
    acc.length + d ≤ 2097154 → groatref04_packed.l0 k x acc i = some (acc ++ nums8 (packE (x.data.toList.drop i.toNat)))
  | 0, k, i, acc, h0, _, hd, hk, _ => by
    obtain ⟨k, rfl⟩ : ∃ m, k = m + 1 := ⟨k - 1, by omega⟩
    rw [groatref04_packed.l0, if_neg (by omega), List.drop_of_length_le (by rw [size_list]; omega)]
    simp [packE, nums8]
  | d + 1, k, i, acc, h0, hp, hd, hk, hs => by
    obtain ⟨k, rfl⟩ : ∃ m, k = m + 1 := ⟨k - 1, by omega⟩
    obtain ⟨a, hca, hba⟩ := drop_bt x i h0 (by omega)
    obtain ⟨b, hcb, hbb⟩ := drop_bt x (i + 1) (by omega) (by omega)
    have hma : isHex a := hh a (List.mem_of_mem_drop (i := i.toNat) (by rw [hca]; simp))
    have hmb : isHex b := hh b (List.mem_of_mem_drop (i := (i + 1).toNat) (by rw [hcb]; simp))
    have la := hv_lt hma
    have lb := hv_lt hmb
    have hbyte : (wrap64 (wrap64 (16 * (hv a : Int)) + (hv b : Int))) % 256 = (((16 * hv a + hv b).toUInt8.toNat : Nat) : Int) := by
      rw [IntWalk.wrap64_in (16 * (hv a : Int)) ⟨by omega, by omega⟩, IntWalk.wrap64_in _ ⟨by omega, by omega⟩]
      simp only [Nat.toUInt8, UInt8.toNat_ofNat']
      omega
    rw [groatref04_packed.l0, if_pos (by omega), if_pos h0, hba, value_hex hma]
    simp only [Option.bind_some]
    rw [IntWalk.wrap64_in (i + 1) ⟨by omega, by omega⟩, if_pos (by omega), if_pos (by omega), hbb, value_hex hmb]
    simp only [Option.bind_some]
    rw [if_pos (by omega), IntWalk.wrap64_in (i + 2) ⟨by omega, by omega⟩, hbyte]
    have hal : (acc ++ [(((16 * hv a + hv b).toUInt8.toNat : Nat) : Int)]).length = acc.length + 1 := by simp
    rw [packed_loop x hx hh he d k (i + 2) _ (by omega) (by omega) (by omega) (by omega) (by omega)]
    rw [hca, hcb, show (i + 1 + 1).toNat = (i + 2).toNat by omega]
    simp [packE, nums8]
theorem ref_packed (x : ByteArray) (hx : x.size ≤ 1048577) (hh : ∀ c ∈ x.data.toList, isHex c) (k : Nat) (hk : x.size + 10 < k) : groatref04_packed.f k x = some (nums8 (packL x.data.toList)) := by
  obtain ⟨k, rfl⟩ : ∃ m, k = m + 1 := ⟨k - 1, by omega⟩
  unfold groatref04_packed.f
  by_cases h : ((x.size : Int) % 2) = 1
  · have hsz : ((⟨#[48]⟩ : ByteArray) ++ x).size = 1 + x.size := by rw [ByteArray.size_append]; rfl
    have hl : ((⟨#[48]⟩ : ByteArray) ++ x).data.toList = 48 :: x.data.toList := by simp
    have he : evened x.data.toList = 48 :: x.data.toList := by
      unfold evened
      rw [if_pos (by rw [size_list]; omega)]
    rw [if_pos h, if_pos (by omega), groatref04_packed.j0, packed_loop _ (by omega) (by
      rw [hl, ← he]
      exact evened_hex hh) (by omega) (x.size / 2 + 1) k 0 [] (by decide) rfl (by rw [hsz]; omega) (by omega) (by simp; omega)]
    rw [show (0 : Int).toNat = 0 from rfl, List.drop_zero, hl, ← he]
    rfl
  · have he : evened x.data.toList = x.data.toList := by
      unfold evened
      rw [if_neg (by rw [size_list]; omega)]
    rw [if_neg h, groatref04_packed.j0, packed_loop _ (by omega) hh (by omega) (x.size / 2) k 0 [] (by decide) rfl (by omega) (by omega) (by simp; omega)]
    rw [show (0 : Int).toNat = 0 from rfl, List.drop_zero]
    unfold packL
    rw [he]
    rfl
set_option maxRecDepth 100000 in
theorem ref_ebcdic {c : UInt8} (h : inRow signsL c = true) (k : Nat) (hk : 3 ≤ k) : groatref04_ebcdic.f k (c.toNat : Int) = some (((ebcB.data.toList.getD (Lib.indexByte signsL c).toNat 0).toNat : Nat) : Int) := by
  obtain ⟨k, rfl⟩ : ∃ m, k = m + 2 := ⟨k - 2, by omega⟩
  have key : ∀ i : Fin 256, inRow signsL (UInt8.ofNat i.1) = true → (if 48 ≤ (i.1 : Int) ∧ (i.1 : Int) ≤ 57 then (240 + (i.1 : Int) - 48) % 256 else if 65 ≤ (i.1 : Int) ∧ (i.1 : Int) ≤ 73 then (193 + (i.1 : Int) - 65) % 256 else if 74 ≤ (i.1 : Int) ∧ (i.1 : Int) ≤ 82 then (209 + (i.1 : Int) - 74) % 256 else if 83 ≤ (i.1 : Int) ∧ (i.1 : Int) ≤ 90 then (226 + (i.1 : Int) - 83) % 256 else 64) = (((ebcB.data.toList.getD (Lib.indexByte signsL (UInt8.ofNat i.1)).toNat 0).toNat : Nat) : Int) := by decide
  have h2 := key ⟨c.toNat, c.toNat_lt⟩ (by rw [UInt8.ofNat_toNat]; exact h)
  simp only [UInt8.ofNat_toNat] at h2
  rw [← h2]
  clear h2 key h
  unfold groatref04_ebcdic.f
  rw [ref_digit, row_ten]
  simp only [Option.bind_some]
  generalize (c.toNat : Int) = n
  by_cases a : 48 ≤ n ∧ n ≤ 57
  · rw [decide_eq_true a, if_pos rfl, if_pos a]
  · rw [decide_eq_false a, if_neg (by simp), if_neg a]
    by_cases b : n ≥ 65
    · rw [if_pos b, groatref04_ebcdic.j0]
      by_cases d : n ≤ 73
      · rw [decide_eq_true d, if_pos rfl, if_pos ⟨b, d⟩]
      · rw [decide_eq_false d, if_neg (by simp), if_neg (show ¬ (65 ≤ n ∧ n ≤ 73) by omega)]
        by_cases e : n ≥ 74
        · rw [if_pos e, groatref04_ebcdic.j1]
          by_cases f : n ≤ 82
          · rw [decide_eq_true f, if_pos rfl, if_pos ⟨e, f⟩]
          · rw [decide_eq_false f, if_neg (by simp), if_neg (show ¬ (74 ≤ n ∧ n ≤ 82) by omega)]
            by_cases g : n ≥ 83
            · rw [if_pos g]
              by_cases o : n ≤ 90
              · rw [if_pos o, if_pos ⟨g, o⟩]
              · rw [if_neg o, if_neg (show ¬ (83 ≤ n ∧ n ≤ 90) by omega)]
            · rw [if_neg g, if_neg (show ¬ (83 ≤ n ∧ n ≤ 90) by omega)]
        · exact absurd (show n ≥ 74 by omega) e
    · rw [if_neg b, groatref04_ebcdic.j0, if_neg (by simp), if_neg (show ¬ (65 ≤ n ∧ n ≤ 73) by omega), if_neg (show ¬ (n ≥ 74) by omega), groatref04_ebcdic.j1, if_neg (by simp), if_neg (show ¬ (74 ≤ n ∧ n ≤ 82) by omega), if_neg (show ¬ (n ≥ 83) by omega), if_neg (show ¬ (83 ≤ n ∧ n ≤ 90) by omega)]
def signB (c : Int) (b : UInt8) : UInt8 := if c = 3 then ebcB.data.toList.getD (Lib.indexByte signsL b).toNat 0 else b
theorem signs_loop (c : Int) (x : ByteArray) (hx : x.size ≤ 1048577) (ha : x.data.toList.all (inRow signsL) = true) : ∀ (d k : Nat) (i : Int) (acc : List Int), 0 ≤ i → (x.size : Int) - i = d → d + 3 < k → acc.length + d ≤ 2097154 →
    groatref04_signs.l0 k c x acc i = some (acc ++ nums8 ((x.data.toList.drop i.toNat).map (signB c)))
  | 0, k, i, acc, h0, hd, hk, _ => by
    obtain ⟨k, rfl⟩ : ∃ m, k = m + 1 := ⟨k - 1, by omega⟩
    rw [groatref04_signs.l0, if_neg (by omega), List.drop_of_length_le (by rw [size_list]; omega)]
    simp [nums8]
  | d + 1, k, i, acc, h0, hd, hk, hs => by
    obtain ⟨k, rfl⟩ : ∃ m, k = m + 1 := ⟨k - 1, by omega⟩
    have hlt : i < (x.size : Int) := by omega
    obtain ⟨b, hc, hb⟩ := drop_bt x i h0 hlt
    have hin := List.all_eq_true.1 ha b (List.mem_of_mem_drop (i := i.toNat) (by rw [hc]; simp))
    rw [groatref04_signs.l0, if_pos hlt]
    by_cases h3 : c = 3
    · rw [if_pos h3, if_pos h0, hb, ref_ebcdic hin k (by omega)]
      simp only [Option.bind_some]
      rw [if_pos (by omega), IntWalk.wrap64_in (i + 1) ⟨by omega, by omega⟩, signs_loop c x hx ha d k (i + 1) _ (by omega) (by omega) (by omega) (by simp; omega), hc]
      simp [nums8, signB, h3]
    · rw [if_neg h3, if_pos h0, if_pos (by omega), IntWalk.wrap64_in (i + 1) ⟨by omega, by omega⟩, hb, signs_loop c x hx ha d k (i + 1) _ (by omega) (by omega) (by omega) (by simp; omega), hc]
      simp [nums8, signB, h3]
theorem ref_signs (c : Int) (x : ByteArray) (hx : x.size ≤ 1048577) (ha : x.data.toList.all (inRow signsL) = true) (k : Nat) (hk : x.size + 10 < k) : groatref04_signs.f k c x = some (nums8 (x.data.toList.map (signB c))) := by
  unfold groatref04_signs.f
  rw [signs_loop c x hx ha x.size k 0 [] (by decide) (by omega) (by omega) (by simp; omega)]
  rfl
theorem turn_map {fr tt : List UInt8} : ∀ {l : List UInt8}, l.all (inRow fr) = true → turnL fr tt l = some (l.map fun b => tt.getD (Lib.indexByte fr b).toNat 0)
  | [], _ => rfl
  | c :: l, h => by
    simp only [List.all_cons, Bool.and_eq_true] at h
    have hc : Lib.indexByte fr c ≠ -1 := by simpa [inRow] using h.1
    simp only [turnL]
    rw [if_neg hc, turn_map h.2]
    rfl
theorem letters_map {c : Int} {l : List UInt8} (hc : 1 ≤ c ∧ c ≤ 3) (h : l.all (inRow signsL) = true) : (lettersC c).put l = l.map (signB c) := by
  have e1 : ∀ c' : Int, c' ≠ 3 → (turnL signsL signsL l).getD [] = l.map (signB c') := by
    intro c' hc'
    rw [turn_map h]
    simp only [Option.getD_some]
    refine List.map_congr_left fun b hb => ?_
    obtain ⟨i, hi, _, hg⟩ := index_get (fr := signsL) (c := b) (by simpa [inRow] using List.all_eq_true.1 h b hb)
    rw [hi, Int.toNat_natCast, hg]
    unfold signB
    rw [if_neg hc']
  unfold lettersC
  by_cases h1 : c = 1
  · rw [if_pos h1]
    exact e1 c (by omega)
  · rw [if_neg h1]
    by_cases h2 : c = 2
    · rw [if_pos h2]
      exact e1 c (by omega)
    · rw [if_neg h2]
      have h3 : c = 3 := by omega
      show (turnL signsL ebcB.data.toList l).getD [] = _
      rw [turn_map h]
      simp only [Option.getD_some]
      refine List.map_congr_left fun b hb => ?_
      unfold signB
      rw [if_pos h3]
set_option maxRecDepth 100000 in
theorem ten_signs {b : UInt8} (h : inRow tenL b = true) : inRow signsL b = true ∧ eb10.data.toList.getD (Lib.indexByte tenL b).toNat 0 = ebcB.data.toList.getD (Lib.indexByte signsL b).toNat 0 := by
  have key : ∀ i : Fin 256, inRow tenL (UInt8.ofNat i.1) = true → inRow signsL (UInt8.ofNat i.1) = true ∧ eb10.data.toList.getD (Lib.indexByte tenL (UInt8.ofNat i.1)).toNat 0 = ebcB.data.toList.getD (Lib.indexByte signsL (UInt8.ofNat i.1)).toNat 0 := by decide
  have h2 := key ⟨b.toNat, b.toNat_lt⟩ (by rw [UInt8.ofNat_toNat]; exact h)
  simp only [UInt8.ofNat_toNat] at h2
  exact h2
theorem ten_all {l : List UInt8} (h : l.all (inRow tenL) = true) : l.all (inRow signsL) = true := List.all_eq_true.2 fun b hb => (ten_signs (List.all_eq_true.1 h b hb)).1
theorem digits_map {c : Int} {l : List UInt8} (hc : c = 1 ∨ c = 3) (h : l.all (inRow tenL) = true) : (digitsC c).put l = l.map (signB c) := by
  rcases hc with rfl | rfl
  · show (turnL tenL tenL l).getD [] = _
    rw [turn_map h]
    simp only [Option.getD_some]
    refine List.map_congr_left fun b hb => ?_
    obtain ⟨i, hi, _, hg⟩ := index_get (fr := tenL) (c := b) (by simpa [inRow] using List.all_eq_true.1 h b hb)
    rw [hi, Int.toNat_natCast, hg]
    rfl
  · show (turnL tenL eb10.data.toList l).getD [] = _
    rw [turn_map h]
    simp only [Option.getD_some]
    refine List.map_congr_left fun b hb => ?_
    exact (ten_signs (List.all_eq_true.1 h b hb)).2
theorem ref_dig (c : Int) (hc : 1 ≤ c ∧ c ≤ 3) (x : ByteArray) (hx : x.size ≤ 1048577) (ha : x.data.toList.all (inRow tenL) = true) (k : Nat) (hk : x.size + 10 < k) : groatref04_digits.f k c x = some (nums8 ((digitsC c).put x.data.toList)) := by
  unfold groatref04_digits.f
  by_cases h2 : c = 2
  · subst h2
    rw [if_pos rfl, ref_packed x hx (fun b hb => ten_hex (List.all_eq_true.1 ha b hb)) k hk]
    rfl
  · rw [if_neg h2, ref_signs c x hx (ten_all ha) k hk, digits_map (by omega) ha]
    rfl
theorem ten_num : ∀ i : Nat, i < 10 → ((tenL.getD i 0).toNat : Int) = 48 + i := by
  have : ∀ i : Fin 10, ((tenL.getD i.1 0).toNat : Int) = 48 + (i.1 : Int) := by decide
  exact fun i hi => this ⟨i, hi⟩
theorem ref_two (n : Nat) (h : n < 100) : groatref04_two.f (n : Int) = some ⟨(told n).toArray⟩ := by
  unfold groatref04_two.f
  have e1 : Int.tdiv (n : Int) 10 = ((n / 10 : Nat) : Int) := by rw [Int.tdiv_eq_ediv_of_nonneg (by omega)]; omega
  have e2 : Int.tmod (n : Int) 10 = ((n % 10 : Nat) : Int) := by rw [Int.tmod_eq_emod_of_nonneg (by omega)]; omega
  have t1 := ten_num (n / 10) (by omega)
  have t2 := ten_num (n % 10) (by omega)
  rw [e1, e2, IntWalk.wrap64_in ((n / 10 : Nat) : Int) ⟨by omega, by omega⟩, IntWalk.wrap64_in (48 + ((n / 10 : Nat) : Int)) ⟨by omega, by omega⟩, IntWalk.wrap64_in (48 + ((n % 10 : Nat) : Int)) ⟨by omega, by omega⟩,
    show (48 + ((n / 10 : Nat) : Int)) % 256 = ((tenL.getD (n / 10) 0).toNat : Int) by omega, show (48 + ((n % 10 : Nat) : Int)) % 256 = ((tenL.getD (n % 10) 0).toNat : Int) by omega]
  have := str_nums (told n)
  unfold told nums8 at this
  simp only [List.map_cons, List.map_nil] at this
  rw [this]
  rfl
def highC (b : UInt8) : UInt8 := highB.data.toList.getD (Lib.indexByte hexL b).toNat 0
set_option maxRecDepth 100000 in
theorem high_byte {b : UInt8} (h : inRow hexL b = true) : (if (b.toNat : Int) ≥ 97 then (((b.toNat : Int) - 97) + 65) % 256 else (b.toNat : Int)) = ((highC b).toNat : Int) := by
  have key : ∀ i : Fin 256, inRow hexL (UInt8.ofNat i.1) = true → (if (i.1 : Int) ≥ 97 then (((i.1 : Int) - 97) + 65) % 256 else (i.1 : Int)) = ((highC (UInt8.ofNat i.1)).toNat : Int) := by decide
  have h2 := key ⟨b.toNat, b.toNat_lt⟩ (by rw [UInt8.ofNat_toNat]; exact h)
  simp only [UInt8.ofNat_toNat] at h2
  exact h2
theorem bytes_loop (x : ByteArray) (hx : x.size ≤ 1048577) (ha : x.data.toList.all (inRow hexL) = true) : ∀ (d k : Nat) (i : Int) (acc : List Int), 0 ≤ i → (x.size : Int) - i = d → d < k → acc.length + d ≤ 2097154 →
    groatref04_bytes.l0 k x acc i = some (acc ++ nums8 ((x.data.toList.drop i.toNat).map highC))
  | 0, k, i, acc, h0, hd, hk, _ => by
    obtain ⟨k, rfl⟩ : ∃ m, k = m + 1 := ⟨k - 1, by omega⟩
    rw [groatref04_bytes.l0, if_neg (by omega), List.drop_of_length_le (by rw [size_list]; omega)]
    simp [nums8]
  | d + 1, k, i, acc, h0, hd, hk, hs => by
    obtain ⟨k, rfl⟩ : ∃ m, k = m + 1 := ⟨k - 1, by omega⟩
    have hlt : i < (x.size : Int) := by omega
    obtain ⟨b, hc, hb⟩ := drop_bt x i h0 hlt
    have hin := high_byte (List.all_eq_true.1 ha b (List.mem_of_mem_drop (i := i.toNat) (by rw [hc]; simp)))
    rw [groatref04_bytes.l0, if_pos hlt, if_pos h0, hb]
    by_cases h97 : (b.toNat : Int) ≥ 97
    · rw [if_pos h97] at hin
      rw [if_pos h97, if_pos (by omega), hin, IntWalk.wrap64_in (i + 1) ⟨by omega, by omega⟩, bytes_loop x hx ha d k (i + 1) _ (by omega) (by omega) (by omega) (by simp; omega), hc]
      simp [nums8]
    · rw [if_neg h97] at hin
      rw [if_neg h97, if_pos (by omega), hin, IntWalk.wrap64_in (i + 1) ⟨by omega, by omega⟩, bytes_loop x hx ha d k (i + 1) _ (by omega) (by omega) (by omega) (by simp; omega), hc]
      simp [nums8]
theorem ref_bytes {p n c : Int} (x : ByteArray) (hx : x.size ≤ 1048576) (h : checkR p n c x.data.toList = 0) (k : Nat) (hk : 1048600 < k) : groatref04_bytes.f k p n c x = some (nums8 (putBytes p c x.data.toList)) := by
  have hm := (check_zero h).1
  have hc : 1 ≤ c ∧ c ≤ 3 := by simp [mayB] at hm; omega
  obtain ⟨hn, ⟨rfl, a, r, hl, ha, hr, hlen⟩ | ⟨rfl, h0, h1, hr⟩ | ⟨rfl, hr, hlen⟩ | ⟨rfl, hr, hlen⟩ | ⟨rfl, hr, hlen⟩⟩ := fit_of h
  · have hz := size_cons hl
    have e1 : (x.extract 0 1).data.toList = [a] := by rw [cut_head, hl]; rfl
    have e2 : (x.extract 1 x.size).data.toList = r := tail_data x a r hl
    have s1 : (x.extract 0 1).size = 1 := by rw [← size_list, e1]; rfl
    have s2 : (x.extract 1 x.size).size = r.length := by rw [← size_list, e2]
    unfold groatref04_bytes.f
    rw [if_neg (by decide), if_neg (by decide), if_pos rfl, if_pos (by decide), if_pos (by omega), ref_signs c _ (by omega) (by rw [e1]; exact ha) k (by omega), ref_dig c hc _ (by omega) (by rw [e2]; exact hr) k (by omega), e1, e2]
    simp only [Option.bind_some]
    have hp : putBytes 5 c x.data.toList = [a].map (signB c) ++ (digitsC c).put r := by
      rw [hl, ← letters_map hc ha]
      rfl
    have l2 := put_length (digitsC c) r
    rw [if_pos (by simp only [nums8, List.length_map, List.length_cons, List.length_nil]; omega), hp]
    simp [nums8]
  · have t1 := ref_two x.data.toList.length (by omega)
    rw [size_list] at t1
    have ht := told_ok x.data.toList.length (by omega)
    unfold groatref04_bytes.f
    rw [if_neg (by decide), if_pos rfl, t1]
    simp only [Option.bind_some]
    rw [← size_list] at *
    rw [ref_dig c hc ⟨(told x.data.toList.length).toArray⟩ (by rw [size_arr]; exact Nat.le_trans (Nat.le_of_eq (told_length _)) (by decide)) (by simpa using ht) k (by rw [size_arr, told_length]; omega), ref_dig c hc x (by rw [← size_list]; omega) hr k (by rw [← size_list]; omega)]
    simp only [Option.bind_some]
    have l1 := put_length (digitsC c) (told x.data.toList.length)
    have l2 := put_length (digitsC c) x.data.toList
    rw [told_length] at l1
    rw [if_pos (by simp only [nums8, List.length_map]; omega)]
    have hp : putBytes 2 c x.data.toList = (digitsC c).put (told x.data.toList.length) ++ (digitsC c).put x.data.toList := rfl
    rw [hp]
    simp [nums8]
  · unfold groatref04_bytes.f
    rw [if_pos rfl, ref_dig c hc x (by omega) hr k (by omega)]
    rfl
  · unfold groatref04_bytes.f
    rw [if_neg (by decide), if_neg (by decide), if_neg (by decide), if_pos rfl, ref_signs c x (by omega) hr k (by omega), ← letters_map hc hr]
    rfl
  · unfold groatref04_bytes.f
    rw [if_neg (by decide), if_neg (by decide), if_neg (by decide), if_neg (by decide)]
    by_cases h1 : c = 1
    · subst h1
      rw [if_pos rfl, bytes_loop x (by omega) hr x.size k 0 [] (by decide) (by omega) (by omega) (by simp; omega)]
      have : (rawC 1).put x.data.toList = x.data.toList.map highC := by
        show (turnL hexL highB.data.toList x.data.toList).getD [] = _
        rw [turn_map hr]
        rfl
      have hp : putBytes 4 1 x.data.toList = (rawC 1).put x.data.toList := rfl
      rw [hp, this]
      rfl
    · rw [if_neg h1, ref_packed x (by omega) (fun b hb => show Lib.indexByte hexL b ≠ -1 from of_decide_eq_true (List.all_eq_true.1 hr b hb)) k (by omega)]
      have hp : putBytes 4 c x.data.toList = (rawC c).put x.data.toList := rfl
      have hq : (rawC c).put x.data.toList = packL x.data.toList := by
        unfold rawC
        rw [if_neg h1]
        rfl
      rw [hp, hq]
      rfl
theorem ref_put (p n c : Int) (x : ByteArray) (l0 : List Int) (hx : x.size ≤ 1048576) (hl : l0.length ≤ 1048576) (k : Nat) (hk : 1048600 < k) : groatref04_Put.f k l0 p n c x = some (putR l0 p n c x) := by
  unfold groatref04_Put.f putR
  rw [ref_check p n c x (by omega) k (by omega)]
  simp only [Option.bind_some, List.nil_append, List.length_nil]
  by_cases h : checkR p n c x.data.toList = 0
  · have hs := bytes_small (fit_of h)
    rw [if_pos h, if_pos h, if_pos (by omega), ref_bytes x hx h k hk]
    simp only [Option.bind_some]
    rw [if_pos (by simp only [nums8, List.length_map]; omega)]
  · rw [if_neg h, if_neg h]

theorem refput_any (k n c : Int) (s : ByteArray) (A0 : Option Addr) (c0 : Nat) (l0 : List Int) (w : World) (hs : s.size ≤ 1048576) (hl0 : l0.length ≤ 1048576) (hr0 : Kd.C (Kd.int .u8) w A0 l0.length l0) (hc0 : l0.length ≤ c0) :
    Calls Try.prog 14 #[.slice A0 l0.length c0, .agg #[.int .i64 k, .int .i64 n, .int .i64 c], .string s] w fun e w' => ∃ v0_ : Value, e = .returned (.tuple #[v0_, .int .i64 (putR l0 k n c s).2]) ∧ Kd.R (Kd.int .u8) 5 w' w.heap.size (fun _ => True) v0_ (putR l0 k n c s).1 ∧ Below w.heap.size w w' :=
  groatref04_Put.calls 2000000 A0 c0 l0 k n c s _ _ w hr0 hc0 (ref_put k n c s l0 hs hl0 2000000 (by decide))
theorem refcheck_any (k n c : Int) (s : ByteArray) (w : World) (hs : s.size ≤ 1048576) :
    Calls Try.prog 16 #[.agg #[.int .i64 k, .int .i64 n, .int .i64 c], .string s] w fun e w' => e = .returned (.int .i64 (checkR k n c s.data.toList)) ∧ Below w.heap.size w w' :=
  groatref04_Check.calls 2000000 k n c s _ w (ref_check k n c s (by omega) 2000000 (by omega))
end Go.Proofs.Ytcgfbdleapjigaa.refp
