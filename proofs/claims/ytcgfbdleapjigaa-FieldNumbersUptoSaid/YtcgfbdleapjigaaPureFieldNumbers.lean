/- Dates, amounts and digits are what the document says, and a number in digits is read again: the plain law. No condition but the bulk. -/
import Derived.Test.YtcgfbdleapjigaaOpsFieldNumbers
import Derived.Test.YtcgfbdleapjigaaFieldLaw2
import Derived.Test.YtcgfbdleapjigaaFieldLaw3
namespace Go.Proofs.Ytcgfbdleapjigaa.Pure
open Go.RowKit Go.Proofs.Ytcgfbdleapjigaa.opens Go.Proofs.YtcgfbdleapjigaaW.PrintWords Go.Proofs.YtcgfbdleapjigaaW.PrintLast Go.Proofs.Ytcgfbdleapjigaa.PFieldNumbers Go.Proofs.Ytcgfbdleapjigaa.fieldp Go.Proofs.Ytcgfbdleapjigaa.fieldw Go.Proofs.Ytcgfbdleapjigaa.fieldl

/-! What the reference says of a text. -/
theorem drop_bt (x : ByteArray) (i : Int) (h0 : 0 ≤ i) (h1 : i < (x.size : Int)) : ∃ c : UInt8, x.data.toList.drop i.toNat = c :: x.data.toList.drop (i + 1).toNat ∧ bt x i = (c.toNat : Int) := by
  have hlt : i.toNat < x.size := by omega
  refine ⟨x[i.toNat], ?_, (bt_at x i hlt).symm⟩
  rw [show (i + 1).toNat = i.toNat + 1 by omega]
  exact List.drop_eq_getElem_cons (by rw [size_list]; exact hlt)
set_option maxRecDepth 100000 in
theorem row_ten (c : UInt8) : inRow tenL c = decide (48 ≤ (c.toNat : Int) ∧ (c.toNat : Int) ≤ 57) := by
  have : ∀ i : Fin 256, inRow tenL (UInt8.ofNat i.1) = decide (48 ≤ (i.1 : Int) ∧ (i.1 : Int) ≤ 57) := by decide
  have h := this ⟨c.toNat, c.toNat_lt⟩
  rw [UInt8.ofNat_toNat] at h
  exact h

theorem ref_digit (c : UInt8) : groatref04_digit.f (c.toNat : Int) = some (inRow tenL c) := by
  rw [row_ten]
  unfold groatref04_digit.f
  by_cases h : 48 ≤ (c.toNat : Int)
  · rw [if_pos h]
    by_cases h2 : (c.toNat : Int) ≤ 57
    · simp [h, h2]
    · simp [h2]
  · rw [if_neg h]
    simp [h]

theorem ref_all_loop (x : ByteArray) (hx : x.size ≤ 1048577) : ∀ (d k : Nat) (i : Int), 0 ≤ i → (x.size : Int) - i = d → d < k → groatref04_all.l0 k x i = some ((x.data.toList.drop i.toNat).all (inRow tenL))
  | 0, k, i, h0, hd, hk => by
    obtain ⟨k, rfl⟩ : ∃ m, k = m + 1 := ⟨k - 1, by omega⟩
    rw [groatref04_all.l0, if_neg (by omega), List.drop_of_length_le (by rw [size_list]; omega)]
    rfl
  | d + 1, k, i, h0, hd, hk => by
    obtain ⟨k, rfl⟩ : ∃ m, k = m + 1 := ⟨k - 1, by omega⟩
    have hlt : i < (x.size : Int) := by omega
    obtain ⟨ch, hc, hb⟩ := drop_bt x i h0 hlt
    rw [groatref04_all.l0, if_pos hlt, if_pos h0, hb, ref_digit, hc, List.all_cons]
    simp only [Option.bind_some]
    rw [show wrap64 (i + 1) = i + 1 from IntWalk.wrap64_in _ ⟨by omega, by omega⟩]
    cases h : inRow tenL ch with
    | false => rfl
    | true =>
      rw [if_pos rfl, ref_all_loop x hx d k (i + 1) (by omega) (by omega) (by omega)]
      simp
theorem ref_all (x : ByteArray) (hx : x.size ≤ 1048577) (k : Nat) (hk : x.size < k) : groatref04_all.f k x = some (x.data.toList.all (inRow tenL)) :=
  ref_all_loop x hx x.size k 0 (by decide) (by omega) hk

theorem ref_value {c : UInt8} (h : inRow tenL c = true) : groatref04_value.f (c.toNat : Int) = some ((c.toNat : Int) - 48) := by
  unfold groatref04_value.f
  rw [ref_digit, h]
  simp only [Option.bind_some, if_true]
  rw [row_ten] at h
  have h2 : 48 ≤ (c.toNat : Int) ∧ (c.toNat : Int) ≤ 57 := of_decide_eq_true h
  congr 1
  omega
theorem amount_loop (x : ByteArray) (hx : x.size ≤ 18) (ha : x.data.toList.all (inRow tenL) = true) : ∀ (d k : Nat) (i : Int), 0 ≤ i → (x.size : Int) - i = d → d < k →
    groatref04_Amount.l0 k x (numL (x.data.toList.take i.toNat)) i = some (numL x.data.toList, 0)
  | 0, k, i, h0, hd, hk => by
    obtain ⟨k, rfl⟩ : ∃ m, k = m + 1 := ⟨k - 1, by omega⟩
    rw [groatref04_Amount.l0, if_neg (by omega), List.take_of_length_le (by rw [size_list]; omega)]
  | d + 1, k, i, h0, hd, hk => by
    obtain ⟨k, rfl⟩ : ∃ m, k = m + 1 := ⟨k - 1, by omega⟩
    have hlt : i < (x.size : Int) := by omega
    obtain ⟨ch, hc, hb⟩ := drop_bt x i h0 hlt
    have hmem : ch ∈ x.data.toList := List.mem_of_mem_drop (i := i.toNat) (by rw [hc]; simp)
    have hin := List.all_eq_true.1 ha ch hmem
    have hsn : x.data.toList.take (i + 1).toNat = x.data.toList.take i.toNat ++ [ch] := by
      have h1 : x.data.toList = x.data.toList.take i.toNat ++ x.data.toList.drop i.toNat := (List.take_append_drop _ _).symm
      have hlen : (x.data.toList.take i.toNat).length = i.toNat := by rw [List.length_take, size_list]; omega
      have h2 : x.data.toList.take (i.toNat + 1) = (x.data.toList.take i.toNat ++ x.data.toList.drop i.toNat).take (i.toNat + 1) := by rw [List.take_append_drop]
      rw [show (i + 1).toNat = i.toNat + 1 by omega, h2, hc, List.take_append, hlen, List.take_of_length_le (by omega)]
      simp
    have hr := numL_range i.toNat (x.data.toList.take i.toNat) (by rw [List.length_take, size_list]; omega) (fun c hc => row_dig (List.all_eq_true.1 ha c (List.mem_of_mem_take hc)))
    have hp : (10 : Int) ^ i.toNat ≤ 10 ^ 17 := by
      have : (10 : Nat) ^ i.toNat ≤ 10 ^ 17 := Nat.pow_le_pow_right (by decide) (by omega)
      exact_mod_cast this
    have hdg := row_dig hin
    unfold isDig at hdg
    rw [groatref04_Amount.l0, if_pos hlt, if_pos h0, hb, ref_value hin]
    simp only [Option.bind_some]
    rw [show wrap64 (i + 1) = i + 1 from IntWalk.wrap64_in _ ⟨by omega, by omega⟩, show wrap64 (10 * numL (x.data.toList.take i.toNat)) = 10 * numL (x.data.toList.take i.toNat) from IntWalk.wrap64_in _ ⟨by omega, by omega⟩,
      show wrap64 (10 * numL (x.data.toList.take i.toNat) + ((ch.toNat : Int) - 48)) = 10 * numL (x.data.toList.take i.toNat) + ((ch.toNat : Int) - 48) from IntWalk.wrap64_in _ ⟨by omega, by omega⟩, ← numL_snoc, ← hsn]
    exact amount_loop x hx ha d k (i + 1) (by omega) (by omega) (by omega)
theorem ref_amount (x : ByteArray) (hx : x.size ≤ 1048577) (k : Nat) (hk : x.size + 30 < k) : groatref04_Amount.f k x = some (amountR x.data.toList) := by
  obtain ⟨k, rfl⟩ : ∃ m, k = m + 1 := ⟨k - 1, by omega⟩
  unfold groatref04_Amount.f amountR
  by_cases h0 : (x.size : Int) < 1
  · rw [if_pos h0, groatref04_Amount.j0, if_pos rfl, if_neg]
    rintro ⟨h, _⟩
    exact h (List.eq_nil_of_length_eq_zero (by rw [size_list]; omega))
  · rw [if_neg h0]
    have hne : x.data.toList ≠ [] := by
      intro e
      have := size_list x
      rw [e] at this
      simp at this
      omega
    by_cases h1 : (x.size : Int) > 18
    · rw [if_pos h1, groatref04_Amount.j0, if_pos rfl, if_neg]
      rintro ⟨_, h, _⟩
      rw [size_list] at h
      omega
    · rw [if_neg h1, ref_all x hx _ (by omega)]
      simp only [Option.bind_some]
      cases ha : x.data.toList.all (inRow tenL) with
      | false =>
        rw [Bool.not_false, groatref04_Amount.j0, if_pos rfl, if_neg]
        rintro ⟨_, _, h⟩
        cases h
      | true =>
        rw [Bool.not_true, groatref04_Amount.j0, if_neg (by simp), if_pos ⟨hne, by rw [size_list]; omega, rfl⟩]
        exact amount_loop x (by omega) ha x.size k 0 (by decide) (by omega) (by omega)
theorem wf_i64 {a : Int} (h : (Lit.int .i64 a).wf = true) : -9223372036854775808 ≤ a ∧ a ≤ 9223372036854775807 := by
  simp [Lit.wf] at h
  have e1 : IntKind.i64.min = -9223372036854775808 := rfl
  have e2 : IntKind.i64.max = 9223372036854775807 := rfl
  omega
theorem pow_pos' (j : Nat) : (0 : Int) < 10 ^ j := Int.pow_pos (by decide)
theorem digits_loop (n : Int) (hn : 0 ≤ n) (hb : n ≤ 9223372036854775807) (s : Nat) (hs : s ≤ 18) : ∀ (d k j : Nat), j + d = s → d < k →
    groatref04_Digits.l0 k (n / 10 ^ j) (List.replicate d 0 ++ nums8 (digL n.toNat j)) ((s : Int) - 1 - j) = some (if (10 : Int) ^ s ≤ n then (⟨#[]⟩, 41) else (⟨(digL n.toNat s).toArray⟩, 0))
  | 0, k, j, hd, hk => by
    obtain ⟨k, rfl⟩ : ∃ m, k = m + 1 := ⟨k - 1, by omega⟩
    obtain rfl : j = s := by omega
    have hiff : n / 10 ^ j > 0 ↔ (10 : Int) ^ j ≤ n := by
      constructor
      · intro h
        have := (Int.le_ediv_iff_mul_le (pow_pos' j)).1 (show 1 ≤ n / 10 ^ j by omega)
        omega
      · intro h
        have := (Int.le_ediv_iff_mul_le (pow_pos' j)).2 (show 1 * 10 ^ j ≤ n by omega)
        omega
    rw [groatref04_Digits.l0, if_neg (by omega)]
    by_cases h : (10 : Int) ^ j ≤ n
    · rw [if_pos (hiff.2 h), if_pos h]
    · rw [if_neg (fun x => h (hiff.1 x)), if_neg h, List.replicate_zero, List.nil_append, str_nums]
  | d + 1, k, j, hd, hk => by
    obtain ⟨k, rfl⟩ : ∃ m, k = m + 1 := ⟨k - 1, by omega⟩
    have hx0 : 0 ≤ n / 10 ^ j := Int.ediv_nonneg hn (Int.le_of_lt (pow_pos' j))
    have hx1 : n / 10 ^ j ≤ n := Int.ediv_le_self _ hn
    have hlen : ((List.replicate (d + 1) (0 : Int) ++ nums8 (digL n.toNat j)).length : Int) = s := by
      rw [List.length_append, List.length_replicate, nums8, List.length_map, digL_length]; omega
    have hnext : wrap64 ((n / 10 ^ j).tdiv 10) = n / 10 ^ (j + 1) := by
      rw [Int.tdiv_eq_ediv_of_nonneg hx0, IntWalk.wrap64_in _ ⟨by omega, by omega⟩, Int.pow_succ]
      exact Int.ediv_ediv_of_nonneg (Int.le_of_lt (pow_pos' j))
    obtain ⟨q, hq⟩ : ∃ q : Nat, n / 10 ^ j % 10 = q ∧ q < 10 := ⟨(n / 10 ^ j % 10).toNat, by omega, by omega⟩
    have hmod : (n / 10 ^ j).tmod 10 = q := by rw [Int.tmod_eq_emod_of_nonneg hx0]; exact hq.1
    have hqn : n.toNat / 10 ^ j % 10 = q := by
      obtain ⟨m, rfl⟩ := Int.eq_ofNat_of_zero_le hn
      rw [Int.toNat_natCast]
      have := hq.1
      exact_mod_cast this
    have hset : (List.replicate (d + 1) (0 : Int) ++ nums8 (digL n.toNat j)).set ((s : Int) - 1 - j).toNat ((wrap64 (48 + (n / 10 ^ j).tmod 10)) % 256) = List.replicate d 0 ++ nums8 (digL n.toNat (j + 1)) := by
      rw [hmod, IntWalk.wrap64_in _ ⟨by omega, by omega⟩, digL_front, hqn, show ((s : Int) - 1 - j).toNat = d by omega, List.replicate_succ', List.append_assoc, List.set_append_right _ _ (by simp)]
      simp only [List.length_replicate, Nat.sub_self, List.singleton_append, List.set_cons_zero, nums8, List.map_cons]
      congr 2
    rw [groatref04_Digits.l0, if_pos (by omega), if_pos (by omega), if_pos (by rw [hlen]; omega), hnext, hset, IntWalk.wrap64_in _ ⟨by omega, by omega⟩, show (s : Int) - 1 - (j : Int) - 1 = (s : Int) - 1 - ((j + 1 : Nat) : Int) by omega]
    exact digits_loop n hn hb s hs d k (j + 1) (by omega) (by omega)
theorem ref_digits (n s : Int) (hb : n ≤ 9223372036854775807) (k : Nat) (hk : 30 < k) : groatref04_Digits.f k n s = some (digitsR n s) := by
  obtain ⟨k, rfl⟩ : ∃ m, k = m + 1 := ⟨k - 1, by omega⟩
  unfold groatref04_Digits.f digitsR
  by_cases h1 : s < 1
  · rw [if_pos h1, groatref04_Digits.j0, if_pos rfl, if_pos (.inl h1)]
  · rw [if_neg h1]
    by_cases h2 : s > 18
    · rw [decide_eq_true h2, groatref04_Digits.j0, if_pos rfl, if_pos (.inr h2)]
    · rw [decide_eq_false h2, groatref04_Digits.j0, if_neg (by simp), if_neg (show ¬ (s < 1 ∨ 18 < s) by omega)]
      by_cases h3 : n < 0
      · rw [if_pos h3, if_pos (.inl h3)]
      · rw [if_neg h3]
        obtain ⟨z, rfl⟩ := Int.eq_ofNat_of_zero_le (show 0 ≤ s by omega)
        rw [if_pos (by omega), if_pos (by omega), Int.toNat_natCast, IntWalk.wrap64_in _ ⟨by omega, by omega⟩]
        have := digits_loop n (by omega) hb z (by omega) z k 0 (by omega) (by omega)
        simp only [Int.pow_zero, Int.ediv_one, digL, nums8, List.map_nil, List.append_nil, Int.natCast_zero, Int.sub_zero] at this
        rw [this]
        by_cases h4 : (10 : Int) ^ z ≤ n
        · rw [if_pos h4, if_pos (.inr h4)]
        · rw [if_neg h4, if_neg (by rintro (h | h); exact h3 h; exact h4 h)]
theorem ref_pair (x : ByteArray) (ha : x.data.toList.all (inRow tenL) = true) (hs : x.size = 10) (i : Nat) (hi : i < 5) : groatref04_pair.f x ((2 * i : Nat) : Int) = some (pairN x.data.toList i) := by
  obtain ⟨a, hca, hba⟩ := drop_bt x ((2 * i : Nat) : Int) (by omega) (by omega)
  obtain ⟨b, hcb, hbb⟩ := drop_bt x (((2 * i : Nat) : Int) + 1) (by omega) (by omega)
  have hma : a ∈ x.data.toList := List.mem_of_mem_drop (i := ((2 * i : Nat) : Int).toNat) (by rw [hca]; simp)
  have hmb : b ∈ x.data.toList := List.mem_of_mem_drop (i := (((2 * i : Nat) : Int) + 1).toNat) (by rw [hcb]; simp)
  have ia := List.all_eq_true.1 ha a hma
  have ib := List.all_eq_true.1 ha b hmb
  have da := row_dig ia
  have db := row_dig ib
  unfold isDig at da db
  unfold groatref04_pair.f
  rw [IntWalk.wrap64_in (((2 * i : Nat) : Int) + 1) ⟨by omega, by omega⟩, if_pos (by omega), if_pos (by omega), hba, ref_value ia]
  simp only [Option.bind_some]
  rw [if_pos (by omega), if_pos (by omega), hbb, ref_value ib]
  simp only [Option.bind_some]
  rw [IntWalk.wrap64_in (10 * ((a.toNat : Int) - 48)) ⟨by omega, by omega⟩, IntWalk.wrap64_in _ ⟨by omega, by omega⟩]
  have : pairN x.data.toList i = numL [a, b] := by
    unfold pairN
    rw [Int.toNat_natCast] at hca
    rw [hca, hcb]
    rfl
  rw [this]
  congr 1
  show _ = 10 * (10 * 0 + ((a.toNat : Int) - 48)) + ((b.toNat : Int) - 48)
  omega
theorem ref_when (x : ByteArray) (hx : x.size ≤ 1048577) (k : Nat) (hk : x.size + 30 < k) : groatref04_When.f k x = some (whenR x.data.toList) := by
  obtain ⟨k, rfl⟩ : ∃ m, k = m + 1 := ⟨k - 1, by omega⟩
  unfold groatref04_When.f
  by_cases hs : (x.size : Int) = 10
  · rw [if_pos hs, ref_all x hx _ (by omega)]
    simp only [Option.bind_some]
    cases ha : x.data.toList.all (inRow tenL) with
    | false =>
      have : whenR x.data.toList = false := by
        unfold whenR ofB
        rw [ha]
        rfl
      rw [this, Bool.not_false, groatref04_When.j0, if_pos rfl]
    | true =>
      have hof : ofB x.data.toList tenL 10 = true := by
        unfold ofB
        rw [ha, size_list, decide_eq_true hs]
        rfl
      have hs' : x.size = 10 := by omega
      have p0 := ref_pair x ha hs' 0 (by decide)
      have p1 := ref_pair x ha hs' 1 (by decide)
      have p2 := ref_pair x ha hs' 2 (by decide)
      have p3 := ref_pair x ha hs' 3 (by decide)
      have p4 := ref_pair x ha hs' 4 (by decide)
      have hr0 : -1000 ≤ pairN x.data.toList 0 ∧ pairN x.data.toList 0 ≤ 1000 := by
        have := numL_range 2 ((x.data.toList.drop (2 * 0)).take 2) (by rw [List.length_take, List.length_drop, size_list]; omega) (fun c hc => row_dig (List.all_eq_true.1 ha c (List.mem_of_mem_drop (List.mem_of_mem_take hc))))
        unfold pairN
        omega
      unfold whenR
      rw [hof, Bool.true_and, Bool.not_true, groatref04_When.j0, if_neg (by simp), show (0 : Int) = ((2 * 0 : Nat) : Int) from rfl, p0, show (2 : Int) = ((2 * 1 : Nat) : Int) from rfl, p1, show (4 : Int) = ((2 * 2 : Nat) : Int) from rfl, p2, show (6 : Int) = ((2 * 3 : Nat) : Int) from rfl, p3, show (8 : Int) = ((2 * 4 : Nat) : Int) from rfl, p4]
      simp only [Option.bind_some]
      generalize pairN x.data.toList 0 = v0 at *
      generalize pairN x.data.toList 1 = v1 at *
      generalize pairN x.data.toList 2 = v2 at *
      generalize pairN x.data.toList 3 = v3 at *
      generalize pairN x.data.toList 4 = v4 at *
      clear p0 p1 p2 p3 p4
      by_cases g0 : v0 ≥ 1
      · rw [if_pos g0]
        by_cases g1 : v0 ≤ 12
        · rw [if_pos g1]
          by_cases g2 : v1 ≥ 1
          · rw [if_pos g2, IntWalk.wrap64_in (v0 - 1) ⟨by omega, by omega⟩, if_pos (by omega), if_pos (by show v0 - 1 < 12; omega)]
            have hrd : rd ([31, 29, 31, 30, 31, 30, 31, 31, 30, 31, 30, 31] : List Int) (v0 - 1) = daysL v0 := rfl
            rw [hrd]
            by_cases g3 : v1 ≤ daysL v0
            · rw [if_pos g3]
              by_cases g4 : v2 ≤ 23
              · rw [if_pos g4]
                by_cases g5 : v3 ≤ 59
                · rw [if_pos g5]
                  congr 1
                  rw [Bool.eq_iff_iff, decide_eq_true_iff, decide_eq_true_iff]
                  omega
                · rw [if_neg g5, decide_eq_false (by omega)]
              · rw [if_neg g4, decide_eq_false (by omega)]
            · rw [if_neg g3, decide_eq_false (by omega)]
          · rw [if_neg g2, decide_eq_false (by omega)]
        · rw [if_neg g1, decide_eq_false (by omega)]
      · rw [if_neg g0, decide_eq_false (by omega)]
  · rw [if_neg hs, groatref04_When.j0, if_pos rfl]
    have : whenR x.data.toList = false := by
      unfold whenR ofB
      rw [size_list, decide_eq_false hs]
      simp
    rw [this]

theorem FieldNumbers : opsFieldNumbers.Pure2 := by
  intro x n s hn _ hs
  have hx : x.size ≤ 1048577 := by omega
  refine ⟨2000000 + 1, ?_⟩
  have hA : field_Amount.f x = some (amountR x.data.toList) := by unfold field_Amount.f; rw [if_pos (by omega)]
  have hD : field_Digits.f n s = some (digitsR n s) := by unfold field_Digits.f; rw [if_pos (wf_i64 hn)]
  have hW : field_When.f x = some (whenR x.data.toList) := by unfold field_When.f; rw [if_pos (by omega)]
  unfold groatlaw04_FieldNumbers.f
  rw [hA, hD, hW, ref_amount x hx _ (by omega), ref_digits n s (wf_i64 hn).2 _ (by omega), ref_when x hx _ (by omega)]
  simp only [groatlaw04_shown.f, Option.bind_some, if_true]
  rw [bne_self_eq_false, groatlaw04_FieldNumbers.j0, if_neg (by simp)]
  by_cases h : (digitsR n s).2 = 0
  · rw [if_pos h]
    unfold digitsR at h ⊢
    by_cases h1 : s < 1 ∨ 18 < s
    · rw [if_pos h1] at h; cases h
    · rw [if_neg h1] at h ⊢
      by_cases h2 : n < 0 ∨ (10 : Int) ^ s.toNat ≤ n
      · rw [if_pos h2] at h; cases h
      · rw [if_neg h2]
        have h4 : n < ((10 ^ s.toNat : Nat) : Int) := by
          have : ((10 ^ s.toNat : Nat) : Int) = (10 : Int) ^ s.toNat := by push_cast; rfl
          have h3 : ¬ (10 : Int) ^ s.toNat ≤ n := fun h => h2 (.inr h)
          omega
        have hz : (⟨(digL n.toNat s.toNat).toArray⟩ : ByteArray).size = s.toNat := by
          rw [size_arr, digL_length]
        have hB : field_Amount.f ⟨(digL n.toNat s.toNat).toArray⟩ = some ((n.toNat : Int), 0) := by
          unfold field_Amount.f
          rw [if_pos (by rw [hz]; omega)]
          rw [show (⟨(digL n.toNat s.toNat).toArray⟩ : ByteArray).data.toList = digL n.toNat s.toNat from by simp, amount_digL (by omega) (by omega) (by omega)]
        rw [hB]
        simp only [Option.bind_some, if_true]
        rw [if_pos (by omega), hz]
        congr 1
        rw [beq_iff_eq]
        omega
  · rw [if_neg h]
end Go.Proofs.Ytcgfbdleapjigaa.Pure
