/- Layers 4 and 5 by their references: digits, what is right with a text, with a message; whether two messages are the same. Plain laws. Conditions: as each theorem says. -/
import Derived.Test.YtjndfmpicnkplaaGreatDoorPReconAsksx8
import Derived.Test.YtjndfmpicnkplaaGreatDoorPReconAsksx9
import Derived.Test.YtjndfmpicnkplaaGreatDoorRecY
import Derived.Test.YtjndfmpicnkplaaGreatDoorFieldNum

namespace Go.Proofs.YtjndfmpicnkplaaGreatDoor.PureReconAsks
open Go.RowKit Go.Proofs.YtjndfmpicnkplaaGreatDoorW.PrintWords Go.Proofs.YtjndfmpicnkplaaGreatDoorW.PrintLast Go.Proofs.YtjndfmpicnkplaaGreatDoor.PReconAsks Go.Proofs.YtjndfmpicnkplaaGreatDoor.fieldp Go.Proofs.YtjndfmpicnkplaaGreatDoor.fieldw Go.Proofs.YtjndfmpicnkplaaGreatDoor.fieldl Go.Proofs.YtjndfmpicnkplaaGreatDoor.msgp Go.Proofs.YtjndfmpicnkplaaGreatDoor.msgw

/-! What the reference says of a text. -/
theorem drop_bt (x : ByteArray) (i : Int) (h0 : 0 ≤ i) (h1 : i < (x.size : Int)) : ∃ c : UInt8, x.data.toList.drop i.toNat = c :: x.data.toList.drop (i + 1).toNat ∧ bt x i = (c.toNat : Int) := by
  have hlt : i.toNat < x.size := by omega
  refine ⟨x[i.toNat], ?_, (bt_at x i hlt).symm⟩
  rw [show (i + 1).toNat = i.toNat + 1 by omega]
  exact List.drop_eq_getElem_cons (by rw [size_list]; exact hlt)
set_option maxRecDepth 100000 in
theorem row_ten (c : UInt8) : inRow tenL c = decide (48 ≤ (c.toNat : Int) ∧ (c.toNat : Int) ≤ 57) := by
  have : ∀ i : Fin 256, inRow tenL (UInt8.ofNat i.1) = decide (48 ≤ (i.1 : Int) ∧ (i.1 : Int) ≤ 57) := by decide
  have h := this ⟨c.toNat, c.toNat_lt⟩
  rw [UInt8.ofNat_toNat] at h
  exact h

theorem ref_digit (c : UInt8) : groatref04_digit.f (c.toNat : Int) = some (inRow tenL c) := by
  rw [row_ten]
  unfold groatref04_digit.f
  by_cases h : 48 ≤ (c.toNat : Int)
  · rw [if_pos h]
    by_cases h2 : (c.toNat : Int) ≤ 57
    · simp [h, h2]
    · simp [h2]
  · rw [if_neg h]
    simp [h]

theorem ref_all_loop (x : ByteArray) (hx : x.size ≤ 1048577) : ∀ (d k : Nat) (i : Int), 0 ≤ i → (x.size : Int) - i = d → d < k → groatref04_all.l0 k x i = some ((x.data.toList.drop i.toNat).all (inRow tenL))
  | 0, k, i, h0, hd, hk => by
    obtain ⟨k, rfl⟩ : ∃ m, k = m + 1 := ⟨k - 1, by omega⟩
    rw [groatref04_all.l0, if_neg (by omega), List.drop_of_length_le (by rw [size_list]; omega)]
    rfl
  | d + 1, k, i, h0, hd, hk => by
    obtain ⟨k, rfl⟩ : ∃ m, k = m + 1 := ⟨k - 1, by omega⟩
    have hlt : i < (x.size : Int) := by omega
    obtain ⟨ch, hc, hb⟩ := drop_bt x i h0 hlt
    rw [groatref04_all.l0, if_pos hlt, if_pos h0, hb, ref_digit, hc, List.all_cons]
    simp only [Option.bind_some]
    rw [show wrap64 (i + 1) = i + 1 from IntWalk.wrap64_in _ ⟨by omega, by omega⟩]
    cases h : inRow tenL ch with
    | false => rfl
    | true =>
      rw [if_pos rfl, ref_all_loop x hx d k (i + 1) (by omega) (by omega) (by omega)]
      simp
theorem ref_all (x : ByteArray) (hx : x.size ≤ 1048577) (k : Nat) (hk : x.size < k) : groatref04_all.f k x = some (x.data.toList.all (inRow tenL)) :=
  ref_all_loop x hx x.size k 0 (by decide) (by omega) hk

set_option maxRecDepth 100000 in
theorem row_signs (c : UInt8) : inRow signsL c = (decide (48 ≤ (c.toNat : Int) ∧ (c.toNat : Int) ≤ 57) || decide (65 ≤ (c.toNat : Int) ∧ (c.toNat : Int) ≤ 90) || ((c.toNat : Int) == 32)) := by
  have : ∀ i : Fin 256, inRow signsL (UInt8.ofNat i.1) = (decide (48 ≤ (i.1 : Int) ∧ (i.1 : Int) ≤ 57) || decide (65 ≤ (i.1 : Int) ∧ (i.1 : Int) ≤ 90) || ((i.1 : Int) == 32)) := by decide
  have h := this ⟨c.toNat, c.toNat_lt⟩
  rw [UInt8.ofNat_toNat] at h
  exact h
set_option maxRecDepth 100000 in
theorem row_hex (c : UInt8) : inRow hexL c = (decide (48 ≤ (c.toNat : Int) ∧ (c.toNat : Int) ≤ 57) || decide (97 ≤ (c.toNat : Int) ∧ (c.toNat : Int) ≤ 102)) := by
  have : ∀ i : Fin 256, inRow hexL (UInt8.ofNat i.1) = (decide (48 ≤ (i.1 : Int) ∧ (i.1 : Int) ≤ 57) || decide (97 ≤ (i.1 : Int) ∧ (i.1 : Int) ≤ 102)) := by decide
  have h := this ⟨c.toNat, c.toNat_lt⟩
  rw [UInt8.ofNat_toNat] at h
  exact h
theorem ref_sign (c : UInt8) : groatref04_sign.f (c.toNat : Int) = some (inRow signsL c) := by
  unfold groatref04_sign.f
  rw [ref_digit, row_ten, row_signs]
  simp only [Option.bind_some]
  by_cases h : 48 ≤ (c.toNat : Int) ∧ (c.toNat : Int) ≤ 57
  · rw [decide_eq_true h]; rfl
  · rw [decide_eq_false h, if_neg (by simp)]
    by_cases h2 : 65 ≤ (c.toNat : Int)
    · rw [if_pos h2]
      by_cases h3 : (c.toNat : Int) ≤ 90
      · rw [if_pos h3]; simp [h2, h3]
      · rw [if_neg h3]; simp [h3]
    · rw [if_neg h2]; simp [h2]
theorem ref_hex (c : UInt8) : groatref04_hex.f (c.toNat : Int) = some (inRow hexL c) := by
  unfold groatref04_hex.f
  rw [ref_digit, row_ten, row_hex]
  simp only [Option.bind_some]
  by_cases h : 48 ≤ (c.toNat : Int) ∧ (c.toNat : Int) ≤ 57
  · rw [decide_eq_true h]; rfl
  · rw [decide_eq_false h, if_neg (by simp)]
    by_cases h2 : 97 ≤ (c.toNat : Int)
    · rw [if_pos h2]
      by_cases h3 : (c.toNat : Int) ≤ 102
      · simp [h2, h3]
      · simp [h3]
    · rw [if_neg h2]; simp [h2]
theorem ref_signs_loop (x : ByteArray) (p n c : Int) (hx : x.size ≤ 1048577) : ∀ (d k : Nat) (i : Int), 0 ≤ i → (x.size : Int) - i = d → d < k → groatref04_right.l0 k x i p n c = some ((x.data.toList.drop i.toNat).all (inRow signsL) && ((x.size : Int) == n))
  | 0, k, i, h0, hd, hk => by
    obtain ⟨k, rfl⟩ : ∃ m, k = m + 1 := ⟨k - 1, by omega⟩
    rw [groatref04_right.l0, if_neg (by omega), List.drop_of_length_le (by rw [size_list]; omega)]
    simp
  | d + 1, k, i, h0, hd, hk => by
    obtain ⟨k, rfl⟩ : ∃ m, k = m + 1 := ⟨k - 1, by omega⟩
    have hlt : i < (x.size : Int) := by omega
    obtain ⟨ch, hc, hb⟩ := drop_bt x i h0 hlt
    rw [groatref04_right.l0, if_pos hlt, if_pos h0, hb, ref_sign, hc, List.all_cons]
    simp only [Option.bind_some]
    rw [show wrap64 (i + 1) = i + 1 from IntWalk.wrap64_in _ ⟨by omega, by omega⟩]
    cases h : inRow signsL ch with
    | false => rfl
    | true =>
      rw [if_pos rfl, ref_signs_loop x p n c hx d k (i + 1) (by omega) (by omega) (by omega)]
      simp
theorem ref_hex_loop (x : ByteArray) (p n c : Int) (hx : x.size ≤ 1048577) : ∀ (d k : Nat) (i : Int), 0 ≤ i → (x.size : Int) - i = d → d < k → groatref04_right.l1 k x i p n c = some ((x.data.toList.drop i.toNat).all (inRow hexL) && ((x.size : Int) == wrap64 (2 * n)))
  | 0, k, i, h0, hd, hk => by
    obtain ⟨k, rfl⟩ : ∃ m, k = m + 1 := ⟨k - 1, by omega⟩
    rw [groatref04_right.l1, if_neg (by omega), List.drop_of_length_le (by rw [size_list]; omega)]
    simp
  | d + 1, k, i, h0, hd, hk => by
    obtain ⟨k, rfl⟩ : ∃ m, k = m + 1 := ⟨k - 1, by omega⟩
    have hlt : i < (x.size : Int) := by omega
    obtain ⟨ch, hc, hb⟩ := drop_bt x i h0 hlt
    rw [groatref04_right.l1, if_pos hlt, if_pos h0, hb, ref_hex, hc, List.all_cons]
    simp only [Option.bind_some]
    rw [show wrap64 (i + 1) = i + 1 from IntWalk.wrap64_in _ ⟨by omega, by omega⟩]
    cases h : inRow hexL ch with
    | false => rfl
    | true =>
      rw [if_pos rfl, ref_hex_loop x p n c hx d k (i + 1) (by omega) (by omega) (by omega)]
      simp
theorem ref_right (p n c : Int) (x : ByteArray) (hx : x.size ≤ 1048577) (hn : 1 ≤ n ∧ n ≤ 64) (k : Nat) (hk : x.size < k) : groatref04_right.f k p n c x = some (rightB p n x.data.toList) := by
  have hw1 : wrap64 (n + 1) = n + 1 := IntWalk.wrap64_in _ ⟨by omega, by omega⟩
  have hw2 : wrap64 (2 * n) = 2 * n := IntWalk.wrap64_in _ ⟨by omega, by omega⟩
  have ha := ref_all x hx k hk
  have h21 : ¬ ((2 : Int) = 1) := by decide
  have h51 : ¬ ((5 : Int) = 1) := by decide
  have h52 : ¬ ((5 : Int) = 2) := by decide
  have h31 : ¬ ((3 : Int) = 1) := by decide
  have h32 : ¬ ((3 : Int) = 2) := by decide
  have h35 : ¬ ((3 : Int) = 5) := by decide
  by_cases h1 : p = 1
  · subst h1
    rw [show rightB 1 n x.data.toList = (x.data.toList.all (inRow tenL) && decide ((x.data.toList.length : Int) = n)) from rfl, size_list, groatref04_right.f, if_pos rfl]
    by_cases hs : (x.size : Int) = n
    · rw [if_pos hs, ha]; simp [hs]
    · rw [if_neg hs]; simp [hs]
  · by_cases h2 : p = 2
    · subst h2
      rw [show rightB 2 n x.data.toList = (decide (0 < x.data.toList.length ∧ (x.data.toList.length : Int) ≤ n) && (x.data.toList.all (inRow tenL) && decide ((x.data.toList.length : Int) = x.data.toList.length))) from rfl, size_list, groatref04_right.f, if_neg h21, if_pos rfl]
      by_cases hs : (x.size : Int) ≥ 1
      · rw [if_pos hs]
        by_cases hs2 : (x.size : Int) ≤ n
        · rw [if_pos hs2, ha, decide_eq_true (show 0 < x.size ∧ (x.size : Int) ≤ n by omega)]
          simp
        · rw [if_neg hs2, decide_eq_false (show ¬ (0 < x.size ∧ (x.size : Int) ≤ n) by omega)]
          rfl
      · rw [if_neg hs, decide_eq_false (show ¬ (0 < x.size ∧ (x.size : Int) ≤ n) by omega)]
        rfl
    · by_cases h5 : p = 5
      · subst h5
        rw [groatref04_right.f, if_neg h51, if_neg h52, if_pos rfl, hw1]
        cases hl : x.data.toList with
        | nil =>
          have hz : x.size = 0 := by rw [← size_list, hl]; rfl
          rw [if_neg (by omega)]
          rfl
        | cons a r =>
          have hz := size_cons hl
          have hb : bt x 0 = (a.toNat : Int) := by
            rw [← bt_at x 0 (by show 0 < x.size; omega)]
            have := head_eq hl (by omega)
            rw [← this]
            rfl
          have hr := ref_all (x.extract 1 x.size) (by rw [← size_list, tail_data x a r hl]; omega) k (by rw [← size_list, tail_data x a r hl]; omega)
          rw [tail_data x a r hl] at hr
          rw [show rightB 5 n (a :: r) = ((a == 67 || a == 68) && (r.all (inRow tenL) && decide ((r.length : Int) = n))) from rfl]
          by_cases hs : (x.size : Int) = n + 1
          · have hg : 1 ≤ (x.size : Int) := by omega
            rw [if_pos hs, if_pos (by omega), hb]
            have hrl : (r.length : Int) = n := by omega
            by_cases h67 : a = 67
            · subst h67
              rw [if_pos (show ((67 : UInt8).toNat : Int) = 67 from rfl), if_pos hg, hr]
              simp [hrl]
            · have h67' : ¬ ((a.toNat : Int) = 67) := fun e => h67 (UInt8.toNat_inj.1 (by show a.toNat = 67; omega))
              rw [if_neg h67']
              by_cases h68 : a = 68
              · subst h68
                rw [if_pos (show ((68 : UInt8).toNat : Int) = 68 from rfl), if_pos hg, hr]
                simp [hrl]
              · have h68' : ¬ ((a.toNat : Int) = 68) := fun e => h68 (UInt8.toNat_inj.1 (by show a.toNat = 68; omega))
                rw [if_neg h68']
                simp [h67, h68]
          · rw [if_neg hs]
            have hrl : ¬ (r.length : Int) = n := by omega
            simp [hrl]
      · by_cases h3 : p = 3
        · subst h3
          rw [show rightB 3 n x.data.toList = (x.data.toList.all (inRow signsL) && decide ((x.data.toList.length : Int) = n)) from rfl, size_list, groatref04_right.f, if_neg h31, if_neg h32, if_neg h35, if_pos rfl, ref_signs_loop x _ n c hx x.size k 0 (by decide) (by omega) hk]
          rfl
        · have e : rightB p n x.data.toList = (x.data.toList.all (inRow hexL) && decide ((x.data.toList.length : Int) = 2 * n)) := by simp [rightB, h1, h2, h3, h5, ofB]
          rw [e, size_list, groatref04_right.f, if_neg h1, if_neg h2, if_neg h5, if_neg h3, ref_hex_loop x _ n c hx x.size k 0 (by decide) (by omega) hk, hw2]
          rfl
theorem ref_may (p n c : Int) : groatref04_may.f p n c = some (mayB p n c) := by
  unfold groatref04_may.f mayB
  by_cases a : p ≥ 1 <;> by_cases b : p ≤ 5 <;> by_cases d : n ≥ 1 <;> by_cases e : n ≤ 64 <;> by_cases f : c ≥ 1 <;> by_cases g : c ≤ 3 <;> simp [a, b, d, e, f, g] <;> omega

theorem ref_check (p n c : Int) (x : ByteArray) (hx : x.size ≤ 1048577) (k : Nat) (hk : x.size < k) : groatref04_Check.f k p n c x = some (checkR p n c x.data.toList) := by
  unfold groatref04_Check.f checkR
  rw [ref_may]
  simp only [Option.bind_some]
  cases hm : mayB p n c with
  | false => rfl
  | true =>
    have hn : 1 ≤ n ∧ n ≤ 64 := by simp [mayB] at hm; omega
    rw [if_pos rfl, if_pos rfl, ref_right p n c x hx hn k hk]
    cases rightB p n x.data.toList <;> rfl

def nums8 (l : List UInt8) : List Int := l.map fun b => (b.toNat : Int)
theorem str_nums (l : List UInt8) : strOfNums (nums8 l) = ⟨l.toArray⟩ := by
  unfold strOfNums nums8
  rw [List.map_map]
  have : ((fun n : Int => UInt8.ofNat n.toNat) ∘ fun b : UInt8 => (b.toNat : Int)) = id := by
    funext b
    simp
  rw [this, List.map_id]

theorem pow_pos' (j : Nat) : (0 : Int) < 10 ^ j := Int.pow_pos (by decide)
theorem digits_loop (n : Int) (hn : 0 ≤ n) (hb : n ≤ 9223372036854775807) (s : Nat) (hs : s ≤ 18) : ∀ (d k j : Nat), j + d = s → d < k →
    groatref04_Digits.l0 k (n / 10 ^ j) (List.replicate d 0 ++ nums8 (digL n.toNat j)) ((s : Int) - 1 - j) = some (if (10 : Int) ^ s ≤ n then (⟨#[]⟩, 41) else (⟨(digL n.toNat s).toArray⟩, 0))
  | 0, k, j, hd, hk => by
    obtain ⟨k, rfl⟩ : ∃ m, k = m + 1 := ⟨k - 1, by omega⟩
    obtain rfl : j = s := by omega
    have hiff : n / 10 ^ j > 0 ↔ (10 : Int) ^ j ≤ n := by
      constructor
      · intro h
        have := (Int.le_ediv_iff_mul_le (pow_pos' j)).1 (show 1 ≤ n / 10 ^ j by omega)
        omega
      · intro h
        have := (Int.le_ediv_iff_mul_le (pow_pos' j)).2 (show 1 * 10 ^ j ≤ n by omega)
        omega
    rw [groatref04_Digits.l0, if_neg (by omega)]
    by_cases h : (10 : Int) ^ j ≤ n
    · rw [if_pos (hiff.2 h), if_pos h]
    · rw [if_neg (fun x => h (hiff.1 x)), if_neg h, List.replicate_zero, List.nil_append, str_nums]
  | d + 1, k, j, hd, hk => by
    obtain ⟨k, rfl⟩ : ∃ m, k = m + 1 := ⟨k - 1, by omega⟩
    have hx0 : 0 ≤ n / 10 ^ j := Int.ediv_nonneg hn (Int.le_of_lt (pow_pos' j))
    have hx1 : n / 10 ^ j ≤ n := Int.ediv_le_self _ hn
    have hlen : ((List.replicate (d + 1) (0 : Int) ++ nums8 (digL n.toNat j)).length : Int) = s := by
      rw [List.length_append, List.length_replicate, nums8, List.length_map, digL_length]; omega
    have hnext : wrap64 ((n / 10 ^ j).tdiv 10) = n / 10 ^ (j + 1) := by
      rw [Int.tdiv_eq_ediv_of_nonneg hx0, IntWalk.wrap64_in _ ⟨by omega, by omega⟩, Int.pow_succ]
      exact Int.ediv_ediv_of_nonneg (Int.le_of_lt (pow_pos' j))
    obtain ⟨q, hq⟩ : ∃ q : Nat, n / 10 ^ j % 10 = q ∧ q < 10 := ⟨(n / 10 ^ j % 10).toNat, by omega, by omega⟩
    have hmod : (n / 10 ^ j).tmod 10 = q := by rw [Int.tmod_eq_emod_of_nonneg hx0]; exact hq.1
    have hqn : n.toNat / 10 ^ j % 10 = q := by
      obtain ⟨m, rfl⟩ := Int.eq_ofNat_of_zero_le hn
      rw [Int.toNat_natCast]
      have := hq.1
      exact_mod_cast this
    have hset : (List.replicate (d + 1) (0 : Int) ++ nums8 (digL n.toNat j)).set ((s : Int) - 1 - j).toNat ((wrap64 (48 + (n / 10 ^ j).tmod 10)) % 256) = List.replicate d 0 ++ nums8 (digL n.toNat (j + 1)) := by
      rw [hmod, IntWalk.wrap64_in _ ⟨by omega, by omega⟩, digL_front, hqn, show ((s : Int) - 1 - j).toNat = d by omega, List.replicate_succ', List.append_assoc, List.set_append_right _ _ (by simp)]
      simp only [List.length_replicate, Nat.sub_self, List.singleton_append, List.set_cons_zero, nums8, List.map_cons]
      congr 2
    rw [groatref04_Digits.l0, if_pos (by omega), if_pos (by omega), if_pos (by rw [hlen]; omega), hnext, hset, IntWalk.wrap64_in _ ⟨by omega, by omega⟩, show (s : Int) - 1 - (j : Int) - 1 = (s : Int) - 1 - ((j + 1 : Nat) : Int) by omega]
    exact digits_loop n hn hb s hs d k (j + 1) (by omega) (by omega)
theorem ref_digits (n s : Int) (hb : n ≤ 9223372036854775807) (k : Nat) (hk : 30 < k) : groatref04_Digits.f k n s = some (digitsR n s) := by
  obtain ⟨k, rfl⟩ : ∃ m, k = m + 1 := ⟨k - 1, by omega⟩
  unfold groatref04_Digits.f digitsR
  by_cases h1 : s < 1
  · rw [if_pos h1, groatref04_Digits.j0, if_pos rfl, if_pos (.inl h1)]
  · rw [if_neg h1]
    by_cases h2 : s > 18
    · rw [decide_eq_true h2, groatref04_Digits.j0, if_pos rfl, if_pos (.inr h2)]
    · rw [decide_eq_false h2, groatref04_Digits.j0, if_neg (by simp), if_neg (show ¬ (s < 1 ∨ 18 < s) by omega)]
      by_cases h3 : n < 0
      · rw [if_pos h3, if_pos (.inl h3)]
      · rw [if_neg h3]
        obtain ⟨z, rfl⟩ := Int.eq_ofNat_of_zero_le (show 0 ≤ s by omega)
        rw [if_pos (by omega), if_pos (by omega), Int.toNat_natCast, IntWalk.wrap64_in _ ⟨by omega, by omega⟩]
        have := digits_loop n (by omega) hb z (by omega) z k 0 (by omega) (by omega)
        simp only [Int.pow_zero, Int.ediv_one, digL, nums8, List.map_nil, List.append_nil, Int.natCast_zero, Int.sub_zero] at this
        rw [this]
        by_cases h4 : (10 : Int) ^ z ≤ n
        · rw [if_pos h4, if_pos (.inr h4)]
        · rw [if_neg h4, if_neg (by rintro (h | h); exact h3 h; exact h4 h)]

/-- A message's fields, as the print has them. -/
def fldS (x : S43) : Fld := (x.f0, x.f1)
theorem rd_at (l : List S43) (i : Nat) (hi : i < l.length) : rd_T43 l (i : Int) = l[i] := by
  simp [rd_T43, List.getD_eq_getElem?_getD, hi]
theorem ref_kind_loop (n : Int) : ∀ (d k i : Nat), i + d = 16 → d < k → groatref05_Kind.l0 k n typesL i = some ((typesL.drop i).contains n)
  | 0, k, i, hd, hk => by
    obtain ⟨k, rfl⟩ : ∃ m, k = m + 1 := ⟨k - 1, by omega⟩
    obtain rfl : i = 16 := by omega
    rw [groatref05_Kind.l0, if_neg (by decide)]
    rfl
  | d + 1, k, i, hd, hk => by
    obtain ⟨k, rfl⟩ : ∃ m, k = m + 1 := ⟨k - 1, by omega⟩
    have hl : typesL.length = 16 := rfl
    have hi : i < typesL.length := by omega
    rw [groatref05_Kind.l0, if_pos (by omega), if_pos (by omega), List.drop_eq_getElem_cons hi, List.contains_cons]
    have hr : rd typesL (i : Int) = typesL[i] := by simp [rd, List.getD_eq_getElem?_getD, hi]
    rw [hr]
    by_cases h : typesL[i] = n
    · rw [if_pos h, h]; simp
    · rw [if_neg h, show wrap64 ((i : Int) + 1) = ((i + 1 : Nat) : Int) from by rw [IntWalk.wrap64_in _ ⟨by omega, by omega⟩]; rfl, ref_kind_loop n d k (i + 1) (by omega) (by omega)]
      have : (n == typesL[i]) = false := by simpa using fun e => h e.symm
      rw [this, Bool.false_or]
theorem ref_kind (n : Int) (k : Nat) (hk : 20 < k) : groatref05_Kind.f k n = some (typesL.contains n) := ref_kind_loop n 16 k 0 rfl (by omega)
theorem ref_there (no : Int) (k : Nat) (hk : 10 < k) : groatref05_there.f k no = some (match formF no 0 with | none => (0, 0) | some x => x) := by
  obtain ⟨k, rfl⟩ : ∃ m, k = m + 4 := ⟨k - 4, by omega⟩
  by_cases h : no = 2 ∨ no = 3 ∨ no = 4 ∨ no = 7 ∨ no = 11 ∨ no = 32 ∨ no = 38 ∨ no = 39 ∨ no = 49 ∨ no = 64 ∨ no = 70 ∨ no = 74 ∨ no = 76 ∨ no = 86 ∨ no = 88 ∨ no = 90 ∨ no = 97
  · rcases h with rfl | rfl | rfl | rfl | rfl | rfl | rfl | rfl | rfl | rfl | rfl | rfl | rfl | rfl | rfl | rfl | rfl <;> rfl
  · simp only [not_or] at h
    obtain ⟨h1, h2, h3, h4, h5, h6, h7, h8, h9, h10, h11, h12, h13, h14, h15, h16, h17⟩ := h
    have hf : formF no 0 = none := by
      unfold formF fieldAt
      have hl : fieldsL.findIdx (fun x => decide (x.1 = no)) = 17 := by
        simp [fieldsL, List.findIdx_cons, Ne.symm h1, Ne.symm h2, Ne.symm h3, Ne.symm h4, Ne.symm h5, Ne.symm h6, Ne.symm h7, Ne.symm h8, Ne.symm h9, Ne.symm h10, Ne.symm h11, Ne.symm h12, Ne.symm h13, Ne.symm h14, Ne.symm h15, Ne.symm h16, Ne.symm h17]
      rw [dif_neg (by rw [hl]; decide)]
    rw [hf]
    simp [groatref05_there.f, groatref05_there.j0, groatref05_there.j1, groatref05_there.j2, groatref05_there.j3, h1, h2, h3, h4, h5, h6, h7, h8, h9, h10, h11, h12, h13, h14, h15, h16, h17]
theorem form_kind (no out : Int) (x : Int × Int) (h : formF no out = some x) : x.1 ≠ 0 := by
  unfold formF at h
  split at h
  · rename_i h17
    obtain rfl := Option.some.inj h
    have := fields_small (fieldAt no) h17
    show fieldsL[fieldAt no].2.1 ≠ 0
    omega
  · cases h
theorem ref_form1 (no : Int) (k : Nat) (hk : 20 < k) : groatref05_Form.f k 1 no = some (match formF no 0 with | none => (0, 0, 0, 52) | some x => (x.1, x.2, 1, 0)) := by
  obtain ⟨k, rfl⟩ : ∃ m, k = m + 1 := ⟨k - 1, by omega⟩
  unfold groatref05_Form.f
  rw [if_neg (by decide), groatref05_Form.j0, if_neg (by decide), ref_there no k (by omega), Option.bind_some]
  cases e : formF no 0 with
  | none => rfl
  | some x =>
    have := form_kind no 0 x e
    dsimp only
    rw [if_neg this, if_neg (by decide)]
theorem checkR_may {p n c : Int} (h : mayB p n c = true) (l : List UInt8) : checkR p n c l = 0 ∨ checkR p n c l = 41 := by
  unfold checkR
  rw [h]
  simp only [if_true]
  split <;> simp
theorem form_may {no : Int} {p n : Int} (h : formF no 0 = some (p, n)) : mayB p n 1 = true := by
  unfold formF at h
  split at h
  · rename_i h17
    have hall : ∀ i (hi : i < fieldsL.length), mayB fieldsL[i].2.1 fieldsL[i].2.2 1 = true := by decide
    have := Option.some.inj h
    have h2 := hall (fieldAt no) h17
    simp only [Prod.mk.injEq] at this
    obtain ⟨rfl, h4⟩ := this
    rw [← h4]
    split
    · simpa using h2
    · simpa using h2
  · cases h
theorem ref_check05_loop (l : List S43) (hl : l.length ≤ 24) (hS : ∀ x ∈ l, x.f1.size ≤ 1048577) (ty : Int) : ∀ (d k i : Nat) (last : Int), i + d = l.length → 2 * d + 1048700 < k →
    groatref05_Check.l0 k last i ty l = some (erZ (errF last ((l.map fldS).drop i)))
  | 0, k, i, last, hd, hk => by
    obtain ⟨k, rfl⟩ : ∃ m, k = m + 1 := ⟨k - 1, by omega⟩
    rw [groatref05_Check.l0, if_neg (by omega), List.drop_eq_nil_of_le (by simp; omega)]
    rfl
  | d + 1, k, i, last, hd, hk => by
    obtain ⟨k, rfl⟩ : ∃ m, k = m + 2 := ⟨k - 2, by omega⟩
    have hi : i < l.length := by omega
    have hi2 : i < (l.map fldS).length := by simpa using hi
    rw [groatref05_Check.l0, if_pos (by omega), if_pos (by omega), rd_at l i hi, ref_form1 _ _ (by omega), Option.bind_some, List.drop_eq_getElem_cons hi2]
    have hx : (l.map fldS)[i] = (l[i].f0, l[i].f1) := by simp [fldS]
    rw [hx]
    have hsz := hS l[i] (List.getElem_mem hi)
    cases e : formF l[i].f0 0 with
    | none =>
      dsimp only
      rw [if_neg (by decide), groatref05_Check.j1, if_pos rfl]
      unfold errF
      rw [show formF (l[i].f0, l[i].f1).1 0 = none from e]
      rfl
    | some x =>
      obtain ⟨p, n⟩ := x
      dsimp only
      rw [if_pos rfl, groatref05_Check.j1]
      unfold errF
      rw [show formF (l[i].f0, l[i].f1).1 0 = some (p, n) from e]
      dsimp only
      by_cases h1 : l[i].f0 ≤ last
      · rw [if_pos (by simpa using h1), if_pos h1]
        rfl
      · rw [if_neg (by simpa using h1), if_neg h1, if_pos (by omega), if_pos (by omega), rd_at l i hi, ref_check _ _ _ _ hsz _ (by omega), Option.bind_some]
        rcases checkR_may (form_may e) l[i].f1.data.toList with h2 | h2
        · rw [if_pos h2, if_pos h2, show wrap64 ((i : Int) + 1) = ((i + 1 : Nat) : Int) from by rw [IntWalk.wrap64_in _ ⟨by omega, by omega⟩]; rfl]
          exact ref_check05_loop l hl hS ty d k (i + 1) l[i].f0 (by omega) (by omega)
        · rw [h2, if_neg (by decide), if_neg (by decide)]
          rfl
/-- What Check answers. -/
def chkR (ty : Int) (F : Flds) : Int := if typesL.contains ty = false then 51 else if 24 < F.length then 5 else erZ (errF 0 F)
theorem ref_check05 (ty : Int) (l : List S43) (hS : ∀ x ∈ l, x.f1.size ≤ 1048577) (k : Nat) (hk : 1048800 < k) : groatref05_Check.f k ty l = some (chkR ty (l.map fldS)) := by
  unfold groatref05_Check.f chkR
  rw [ref_kind ty k (by omega), Option.bind_some]
  cases typesL.contains ty with
  | false => rfl
  | true =>
    rw [if_pos rfl, if_neg (show ¬ true = false by simp), List.length_map]
    by_cases h : l.length ≤ 24
    · rw [if_neg (show ¬ (l.length : Int) > 24 by omega), if_neg (show ¬ 24 < l.length by omega)]
      exact ref_check05_loop l h hS ty l.length k 0 0 (by omega) (by omega)
    · rw [if_pos (show (l.length : Int) > 24 by omega), if_pos (show 24 < l.length by omega)]
theorem ref_same_loop (t1 t2 : Int) (l1 l2 : List S43) (hl : l1.length = l2.length) (hm : l1.length ≤ 1048576) : ∀ (d k i : Nat), i + d = l1.length → d < k →
    groatref05_Same.l0 k i t1 l1 t2 l2 = some (decide ((l1.map fldS).drop i = (l2.map fldS).drop i))
  | 0, k, i, hd, hk => by
    obtain ⟨k, rfl⟩ : ∃ m, k = m + 1 := ⟨k - 1, by omega⟩
    rw [groatref05_Same.l0, if_neg (by omega), List.drop_eq_nil_of_le (by simp; omega), List.drop_eq_nil_of_le (by simp; omega)]
    simp
  | d + 1, k, i, hd, hk => by
    obtain ⟨k, rfl⟩ : ∃ m, k = m + 1 := ⟨k - 1, by omega⟩
    have h1 : i < l1.length := by omega
    have h2 : i < l2.length := by omega
    rw [groatref05_Same.l0, if_pos (by omega), if_pos (by omega), if_pos (by omega), rd_at l1 i h1, rd_at l2 i h2, List.drop_eq_getElem_cons (l := l1.map fldS) (by simpa using h1), List.drop_eq_getElem_cons (l := l2.map fldS) (by simpa using h2)]
    have ih := ref_same_loop t1 t2 l1 l2 hl hm d k (i + 1) (by omega) (by omega)
    by_cases e0 : l1[i].f0 = l2[i].f0
    · by_cases e1 : l1[i].f1 = l2[i].f1
      · rw [if_neg (by simp [e0, e1]), show wrap64 ((i : Int) + 1) = ((i + 1 : Nat) : Int) from by rw [IntWalk.wrap64_in _ ⟨by omega, by omega⟩]; rfl, ih]
        simp [fldS, e0, e1]
      · have e2 : ¬ l1[i].f1.toList = l2[i].f1.toList := fun h => e1 (by
          rw [ByteArray.toList_eq, ByteArray.toList_eq] at h
          exact ByteArray.ext (Array.ext' h))
        rw [if_pos (by simp [e0, e2])]
        simp [fldS, e1]
    · rw [if_pos (by simp [e0])]
      simp [fldS, e0]
theorem ref_same (t1 t2 : Int) (l1 l2 : List S43) (hm : l1.length ≤ 1048576) (k : Nat) (hk : 1048600 < k) : groatref05_Same.f k t1 l1 t2 l2 = some (decide (t1 = t2) && decide (l1.map fldS = l2.map fldS)) := by
  obtain ⟨k, rfl⟩ : ∃ m, k = m + 1 := ⟨k - 1, by omega⟩
  unfold groatref05_Same.f
  by_cases h : t1 = t2
  · rw [if_pos h, groatref05_Same.j0]
    by_cases h2 : l1.length = l2.length
    · rw [if_neg (by simp [h2])]
      have := ref_same_loop t1 t2 l1 l2 h2 hm l1.length k 0 (by omega) (by omega)
      simp only [List.drop_zero] at this
      rw [show ((0 : Nat) : Int) = 0 from rfl] at this
      rw [this, decide_eq_true h, Bool.true_and]
    · rw [if_pos (by simpa using fun h : (l1.length : Int) = l2.length => h2 (by omega))]
      have : ¬ l1.map fldS = l2.map fldS := fun e => h2 (by have := congrArg List.length e; simpa using this)
      simp [this]
  · rw [if_neg h, groatref05_Same.j0, if_pos rfl]
    simp [h]
end Go.Proofs.YtjndfmpicnkplaaGreatDoor.PureReconAsks
