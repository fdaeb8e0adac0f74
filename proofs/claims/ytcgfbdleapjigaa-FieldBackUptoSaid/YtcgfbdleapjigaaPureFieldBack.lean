/- What was put is taken again, whatever stands behind it: the plain law. No condition but the bulk. -/
import Derived.Test.YtcgfbdleapjigaaOpsFieldBack
import Derived.Test.YtcgfbdleapjigaaFieldLaw2
namespace Go.Proofs.Ytcgfbdleapjigaa.Pure
open Go.RowKit Go.Proofs.Ytcgfbdleapjigaa.opens Go.Proofs.YtcgfbdleapjigaaW.PrintWords Go.Proofs.YtcgfbdleapjigaaW.PrintLast Go.Proofs.Ytcgfbdleapjigaa.PFieldBack Go.Proofs.Ytcgfbdleapjigaa.fieldp Go.Proofs.Ytcgfbdleapjigaa.fieldw Go.Proofs.Ytcgfbdleapjigaa.fieldl

/-! What the reference says of a text. -/
theorem drop_bt (x : ByteArray) (i : Int) (h0 : 0 ≤ i) (h1 : i < (x.size : Int)) : ∃ c : UInt8, x.data.toList.drop i.toNat = c :: x.data.toList.drop (i + 1).toNat ∧ bt x i = (c.toNat : Int) := by
  have hlt : i.toNat < x.size := by omega
  refine ⟨x[i.toNat], ?_, (bt_at x i hlt).symm⟩
  rw [show (i + 1).toNat = i.toNat + 1 by omega]
  exact List.drop_eq_getElem_cons (by rw [size_list]; exact hlt)
set_option maxRecDepth 100000 in
theorem row_ten (c : UInt8) : inRow tenL c = decide (48 ≤ (c.toNat : Int) ∧ (c.toNat : Int) ≤ 57) := by
  have : ∀ i : Fin 256, inRow tenL (UInt8.ofNat i.1) = decide (48 ≤ (i.1 : Int) ∧ (i.1 : Int) ≤ 57) := by decide
  have h := this ⟨c.toNat, c.toNat_lt⟩
  rw [UInt8.ofNat_toNat] at h
  exact h

theorem ref_digit (c : UInt8) : groatref04_digit.f (c.toNat : Int) = some (inRow tenL c) := by
  rw [row_ten]
  unfold groatref04_digit.f
  by_cases h : 48 ≤ (c.toNat : Int)
  · rw [if_pos h]
    by_cases h2 : (c.toNat : Int) ≤ 57
    · simp [h, h2]
    · simp [h2]
  · rw [if_neg h]
    simp [h]

theorem ref_all_loop (x : ByteArray) (hx : x.size ≤ 1048577) : ∀ (d k : Nat) (i : Int), 0 ≤ i → (x.size : Int) - i = d → d < k → groatref04_all.l0 k x i = some ((x.data.toList.drop i.toNat).all (inRow tenL))
  | 0, k, i, h0, hd, hk => by
    obtain ⟨k, rfl⟩ : ∃ m, k = m + 1 := ⟨k - 1, by omega⟩
    rw [groatref04_all.l0, if_neg (by omega), List.drop_of_length_le (by rw [size_list]; omega)]
    rfl
  | d + 1, k, i, h0, hd, hk => by
    obtain ⟨k, rfl⟩ : ∃ m, k = m + 1 := ⟨k - 1, by omega⟩
    have hlt : i < (x.size : Int) := by omega
    obtain ⟨ch, hc, hb⟩ := drop_bt x i h0 hlt
    rw [groatref04_all.l0, if_pos hlt, if_pos h0, hb, ref_digit, hc, List.all_cons]
    simp only [Option.bind_some]
    rw [show wrap64 (i + 1) = i + 1 from IntWalk.wrap64_in _ ⟨by omega, by omega⟩]
    cases h : inRow tenL ch with
    | false => rfl
    | true =>
      rw [if_pos rfl, ref_all_loop x hx d k (i + 1) (by omega) (by omega) (by omega)]
      simp
theorem ref_all (x : ByteArray) (hx : x.size ≤ 1048577) (k : Nat) (hk : x.size < k) : groatref04_all.f k x = some (x.data.toList.all (inRow tenL)) :=
  ref_all_loop x hx x.size k 0 (by decide) (by omega) hk

set_option maxRecDepth 100000 in
theorem row_signs (c : UInt8) : inRow signsL c = (decide (48 ≤ (c.toNat : Int) ∧ (c.toNat : Int) ≤ 57) || decide (65 ≤ (c.toNat : Int) ∧ (c.toNat : Int) ≤ 90) || ((c.toNat : Int) == 32)) := by
  have : ∀ i : Fin 256, inRow signsL (UInt8.ofNat i.1) = (decide (48 ≤ (i.1 : Int) ∧ (i.1 : Int) ≤ 57) || decide (65 ≤ (i.1 : Int) ∧ (i.1 : Int) ≤ 90) || ((i.1 : Int) == 32)) := by decide
  have h := this ⟨c.toNat, c.toNat_lt⟩
  rw [UInt8.ofNat_toNat] at h
  exact h
set_option maxRecDepth 100000 in
theorem row_hex (c : UInt8) : inRow hexL c = (decide (48 ≤ (c.toNat : Int) ∧ (c.toNat : Int) ≤ 57) || decide (97 ≤ (c.toNat : Int) ∧ (c.toNat : Int) ≤ 102)) := by
  have : ∀ i : Fin 256, inRow hexL (UInt8.ofNat i.1) = (decide (48 ≤ (i.1 : Int) ∧ (i.1 : Int) ≤ 57) || decide (97 ≤ (i.1 : Int) ∧ (i.1 : Int) ≤ 102)) := by decide
  have h := this ⟨c.toNat, c.toNat_lt⟩
  rw [UInt8.ofNat_toNat] at h
  exact h
theorem ref_sign (c : UInt8) : groatref04_sign.f (c.toNat : Int) = some (inRow signsL c) := by
  unfold groatref04_sign.f
  rw [ref_digit, row_ten, row_signs]
  simp only [Option.bind_some]
  by_cases h : 48 ≤ (c.toNat : Int) ∧ (c.toNat : Int) ≤ 57
  · rw [decide_eq_true h]; rfl
  · rw [decide_eq_false h, if_neg (by simp)]
    by_cases h2 : 65 ≤ (c.toNat : Int)
    · rw [if_pos h2]
      by_cases h3 : (c.toNat : Int) ≤ 90
      · rw [if_pos h3]; simp [h2, h3]
      · rw [if_neg h3]; simp [h3]
    · rw [if_neg h2]; simp [h2]
theorem ref_hex (c : UInt8) : groatref04_hex.f (c.toNat : Int) = some (inRow hexL c) := by
  unfold groatref04_hex.f
  rw [ref_digit, row_ten, row_hex]
  simp only [Option.bind_some]
  by_cases h : 48 ≤ (c.toNat : Int) ∧ (c.toNat : Int) ≤ 57
  · rw [decide_eq_true h]; rfl
  · rw [decide_eq_false h, if_neg (by simp)]
    by_cases h2 : 97 ≤ (c.toNat : Int)
    · rw [if_pos h2]
      by_cases h3 : (c.toNat : Int) ≤ 102
      · simp [h2, h3]
      · simp [h3]
    · rw [if_neg h2]; simp [h2]
theorem ref_signs_loop (x : ByteArray) (p n c : Int) (hx : x.size ≤ 1048577) : ∀ (d k : Nat) (i : Int), 0 ≤ i → (x.size : Int) - i = d → d < k → groatref04_right.l0 k x i p n c = some ((x.data.toList.drop i.toNat).all (inRow signsL) && ((x.size : Int) == n))
  | 0, k, i, h0, hd, hk => by
    obtain ⟨k, rfl⟩ : ∃ m, k = m + 1 := ⟨k - 1, by omega⟩
    rw [groatref04_right.l0, if_neg (by omega), List.drop_of_length_le (by rw [size_list]; omega)]
    simp
  | d + 1, k, i, h0, hd, hk => by
    obtain ⟨k, rfl⟩ : ∃ m, k = m + 1 := ⟨k - 1, by omega⟩
    have hlt : i < (x.size : Int) := by omega
    obtain ⟨ch, hc, hb⟩ := drop_bt x i h0 hlt
    rw [groatref04_right.l0, if_pos hlt, if_pos h0, hb, ref_sign, hc, List.all_cons]
    simp only [Option.bind_some]
    rw [show wrap64 (i + 1) = i + 1 from IntWalk.wrap64_in _ ⟨by omega, by omega⟩]
    cases h : inRow signsL ch with
    | false => rfl
    | true =>
      rw [if_pos rfl, ref_signs_loop x p n c hx d k (i + 1) (by omega) (by omega) (by omega)]
      simp
theorem ref_hex_loop (x : ByteArray) (p n c : Int) (hx : x.size ≤ 1048577) : ∀ (d k : Nat) (i : Int), 0 ≤ i → (x.size : Int) - i = d → d < k → groatref04_right.l1 k x i p n c = some ((x.data.toList.drop i.toNat).all (inRow hexL) && ((x.size : Int) == wrap64 (2 * n)))
  | 0, k, i, h0, hd, hk => by
    obtain ⟨k, rfl⟩ : ∃ m, k = m + 1 := ⟨k - 1, by omega⟩
    rw [groatref04_right.l1, if_neg (by omega), List.drop_of_length_le (by rw [size_list]; omega)]
    simp
  | d + 1, k, i, h0, hd, hk => by
    obtain ⟨k, rfl⟩ : ∃ m, k = m + 1 := ⟨k - 1, by omega⟩
    have hlt : i < (x.size : Int) := by omega
    obtain ⟨ch, hc, hb⟩ := drop_bt x i h0 hlt
    rw [groatref04_right.l1, if_pos hlt, if_pos h0, hb, ref_hex, hc, List.all_cons]
    simp only [Option.bind_some]
    rw [show wrap64 (i + 1) = i + 1 from IntWalk.wrap64_in _ ⟨by omega, by omega⟩]
    cases h : inRow hexL ch with
    | false => rfl
    | true =>
      rw [if_pos rfl, ref_hex_loop x p n c hx d k (i + 1) (by omega) (by omega) (by omega)]
      simp
theorem ref_right (p n c : Int) (x : ByteArray) (hx : x.size ≤ 1048577) (hn : 1 ≤ n ∧ n ≤ 64) (k : Nat) (hk : x.size < k) : groatref04_right.f k p n c x = some (rightB p n x.data.toList) := by
  have hw1 : wrap64 (n + 1) = n + 1 := IntWalk.wrap64_in _ ⟨by omega, by omega⟩
  have hw2 : wrap64 (2 * n) = 2 * n := IntWalk.wrap64_in _ ⟨by omega, by omega⟩
  have ha := ref_all x hx k hk
  have h21 : ¬ ((2 : Int) = 1) := by decide
  have h51 : ¬ ((5 : Int) = 1) := by decide
  have h52 : ¬ ((5 : Int) = 2) := by decide
  have h31 : ¬ ((3 : Int) = 1) := by decide
  have h32 : ¬ ((3 : Int) = 2) := by decide
  have h35 : ¬ ((3 : Int) = 5) := by decide
  by_cases h1 : p = 1
  · subst h1
    rw [show rightB 1 n x.data.toList = (x.data.toList.all (inRow tenL) && decide ((x.data.toList.length : Int) = n)) from rfl, size_list, groatref04_right.f, if_pos rfl]
    by_cases hs : (x.size : Int) = n
    · rw [if_pos hs, ha]; simp [hs]
    · rw [if_neg hs]; simp [hs]
  · by_cases h2 : p = 2
    · subst h2
      rw [show rightB 2 n x.data.toList = (decide (0 < x.data.toList.length ∧ (x.data.toList.length : Int) ≤ n) && (x.data.toList.all (inRow tenL) && decide ((x.data.toList.length : Int) = x.data.toList.length))) from rfl, size_list, groatref04_right.f, if_neg h21, if_pos rfl]
      by_cases hs : (x.size : Int) ≥ 1
      · rw [if_pos hs]
        by_cases hs2 : (x.size : Int) ≤ n
        · rw [if_pos hs2, ha, decide_eq_true (show 0 < x.size ∧ (x.size : Int) ≤ n by omega)]
          simp
        · rw [if_neg hs2, decide_eq_false (show ¬ (0 < x.size ∧ (x.size : Int) ≤ n) by omega)]
          rfl
      · rw [if_neg hs, decide_eq_false (show ¬ (0 < x.size ∧ (x.size : Int) ≤ n) by omega)]
        rfl
    · by_cases h5 : p = 5
      · subst h5
        rw [groatref04_right.f, if_neg h51, if_neg h52, if_pos rfl, hw1]
        cases hl : x.data.toList with
        | nil =>
          have hz : x.size = 0 := by rw [← size_list, hl]; rfl
          rw [if_neg (by omega)]
          rfl
        | cons a r =>
          have hz := size_cons hl
          have hb : bt x 0 = (a.toNat : Int) := by
            rw [← bt_at x 0 (by show 0 < x.size; omega)]
            have := head_eq hl (by omega)
            rw [← this]
            rfl
          have hr := ref_all (x.extract 1 x.size) (by rw [← size_list, tail_data x a r hl]; omega) k (by rw [← size_list, tail_data x a r hl]; omega)
          rw [tail_data x a r hl] at hr
          rw [show rightB 5 n (a :: r) = ((a == 67 || a == 68) && (r.all (inRow tenL) && decide ((r.length : Int) = n))) from rfl]
          by_cases hs : (x.size : Int) = n + 1
          · have hg : 1 ≤ (x.size : Int) := by omega
            rw [if_pos hs, if_pos (by omega), hb]
            have hrl : (r.length : Int) = n := by omega
            by_cases h67 : a = 67
            · subst h67
              rw [if_pos (show ((67 : UInt8).toNat : Int) = 67 from rfl), if_pos hg, hr]
              simp [hrl]
            · have h67' : ¬ ((a.toNat : Int) = 67) := fun e => h67 (UInt8.toNat_inj.1 (by show a.toNat = 67; omega))
              rw [if_neg h67']
              by_cases h68 : a = 68
              · subst h68
                rw [if_pos (show ((68 : UInt8).toNat : Int) = 68 from rfl), if_pos hg, hr]
                simp [hrl]
              · have h68' : ¬ ((a.toNat : Int) = 68) := fun e => h68 (UInt8.toNat_inj.1 (by show a.toNat = 68; omega))
                rw [if_neg h68']
                simp [h67, h68]
          · rw [if_neg hs]
            have hrl : ¬ (r.length : Int) = n := by omega
            simp [hrl]
      · by_cases h3 : p = 3
        · subst h3
          rw [show rightB 3 n x.data.toList = (x.data.toList.all (inRow signsL) && decide ((x.data.toList.length : Int) = n)) from rfl, size_list, groatref04_right.f, if_neg h31, if_neg h32, if_neg h35, if_pos rfl, ref_signs_loop x _ n c hx x.size k 0 (by decide) (by omega) hk]
          rfl
        · have e : rightB p n x.data.toList = (x.data.toList.all (inRow hexL) && decide ((x.data.toList.length : Int) = 2 * n)) := by simp [rightB, h1, h2, h3, h5, ofB]
          rw [e, size_list, groatref04_right.f, if_neg h1, if_neg h2, if_neg h5, if_neg h3, ref_hex_loop x _ n c hx x.size k 0 (by decide) (by omega) hk, hw2]
          rfl
theorem ref_may (p n c : Int) : groatref04_may.f p n c = some (mayB p n c) := by
  unfold groatref04_may.f mayB
  by_cases a : p ≥ 1 <;> by_cases b : p ≤ 5 <;> by_cases d : n ≥ 1 <;> by_cases e : n ≤ 64 <;> by_cases f : c ≥ 1 <;> by_cases g : c ≤ 3 <;> simp [a, b, d, e, f, g] <;> omega
theorem ref_check (p n c : Int) (x : ByteArray) (hx : x.size ≤ 1048577) (k : Nat) (hk : x.size < k) : groatref04_Check.f k p n c x = some (checkR p n c x.data.toList) := by
  unfold groatref04_Check.f checkR
  rw [ref_may]
  simp only [Option.bind_some]
  cases hm : mayB p n c with
  | false => rfl
  | true =>
    have hn : 1 ≤ n ∧ n ≤ 64 := by simp [mayB] at hm; omega
    rw [if_pos rfl, if_pos rfl, ref_right p n c x hx hn k hk]
    cases rightB p n x.data.toList <;> rfl

theorem put_of (k n c : Int) (a : ByteArray) (h : a.size ≤ 1048576) : field_Put.f [] k n c a = some (putR [] k n c a) := by
  unfold field_Put.f
  rw [if_pos ⟨by simp, by omega⟩]
theorem strOf_app (a b : List Int) : (strOfNums (a ++ b)).data.toList = (strOfNums a).data.toList ++ (strOfNums b).data.toList := by
  rw [strOfNums_data, strOfNums_data, strOfNums_data, List.map_append]
theorem short_loop (p n c : Int) (t : List UInt8) (h : checkR p n c t = 0) (hs : (putBytes p c t).length ≤ 1000) : ∀ (d k : Nat) (i : Int), 0 ≤ i → ((putBytes p c t).length : Int) - i = d → d < k →
    groatlaw04_FieldBack.l0 k (nums8 (putBytes p c t)) i p n c = some true
  | 0, k, i, h0, hd, hk => by
    obtain ⟨k, rfl⟩ : ∃ m, k = m + 1 := ⟨k - 1, by omega⟩
    have hl : (nums8 (putBytes p c t)).length = (putBytes p c t).length := by simp [nums8]
    rw [groatlaw04_FieldBack.l0, if_neg (by omega)]
  | d + 1, k, i, h0, hd, hk => by
    obtain ⟨k, rfl⟩ : ∃ m, k = m + 1 := ⟨k - 1, by omega⟩
    have hl : (nums8 (putBytes p c t)).length = (putBytes p c t).length := by simp [nums8]
    have hlt : i < ((nums8 (putBytes p c t)).length : Int) := by omega
    have ht : field_Take.f ((nums8 (putBytes p c t)).take i.toNat) p n c = some (takeR ((nums8 (putBytes p c t)).take i.toNat) p n c) := by
      unfold field_Take.f
      rw [if_pos (by rw [List.length_take]; omega)]
    rw [groatlaw04_FieldBack.l0, if_pos hlt, if_pos h0, if_pos (by omega), ht]
    simp only [Option.bind_some]
    rw [takeR_short h _ i.toNat (by omega) (by
      rw [strOfNums_data, List.map_take, ← strOfNums_data, str_nums]), if_pos rfl,
      show wrap64 (i + 1) = i + 1 from IntWalk.wrap64_in _ ⟨by omega, by omega⟩]
    exact short_loop p n c t h hs d k (i + 1) (by omega) (by omega) (by omega)

theorem FieldBack : opsFieldBack.Pure2 := by
  intro f a b _ hb hs
  have hlen : b.length ≤ 1048576 := by
    have : b.length ≤ sumOf (fun _ => 1) b := sumOf_length (fun _ => 1) (fun _ => Nat.le_refl _) b
    omega
  have hb' : ∀ x ∈ b, 0 ≤ x ∧ x < 256 := fun x hx => by
    have := hb x hx
    simp [Lit.wf] at this
    have e1 : IntKind.u8.min = 0 := rfl
    have e2 : IntKind.u8.max = 255 := rfl
    omega
  refine ⟨2000000 + 1 + 1, ?_⟩
  unfold groatlaw04_FieldBack.f
  rw [put_of _ _ _ a (by omega), ref_check _ _ _ a (by omega) _ (by omega)]
  simp only [groatlaw04_shown.f, Option.bind_some, if_true]
  by_cases h1 : checkR f.f0 f.f1 f.f2 a.data.toList = 0
  · have hp := putR_of [] h1
    have hsz := bytes_len (fit_of h1)
    have hput : (putBytes f.f0 f.f2 a.data.toList).length ≤ 1000 := bytes_small (fit_of h1)
    rw [hp]
    simp only [List.nil_append]
    rw [h1]
    have e : ((0 : Int) != 0) = false := rfl
    rw [e, groatlaw04_FieldBack.j0, if_neg (by simp), if_pos rfl]
    have hl : (nums8 (putBytes f.f0 f.f2 a.data.toList)).length = (putBytes f.f0 f.f2 a.data.toList).length := by simp [nums8]
    simp only [Option.bind_some, List.nil_append, List.length_nil]
    rw [if_pos (by omega), if_pos (by omega)]
    have ht : field_Take.f (nums8 (putBytes f.f0 f.f2 a.data.toList) ++ b) f.f0 f.f1 f.f2 = some (takeR (nums8 (putBytes f.f0 f.f2 a.data.toList) ++ b) f.f0 f.f1 f.f2) := by
      unfold field_Take.f
      rw [if_pos (by rw [List.length_append]; omega)]
    rw [ht, takeR_back h1 _ (strOfNums b).data.toList (by rw [strOf_app, str_nums])]
    simp only [Option.bind_some]
    rw [if_pos trivial, if_pos trivial, nums_str hb', bne_self_eq_false, groatlaw04_FieldBack.j1, if_neg (by simp)]
    exact short_loop _ _ _ _ h1 hput (putBytes f.f0 f.f2 a.data.toList).length _ 0 (by decide) (by omega) (by omega)
  · have hne : (putR [] f.f0 f.f1 f.f2 a).2 ≠ 0 := by
      unfold putR
      rw [if_neg h1]
      exact h1
    obtain ⟨h2, h3⟩ := putR_ne hne
    rw [h2, bne_self_eq_false, groatlaw04_FieldBack.j0, if_neg (by simp), if_neg hne]
end Go.Proofs.Ytcgfbdleapjigaa.Pure
