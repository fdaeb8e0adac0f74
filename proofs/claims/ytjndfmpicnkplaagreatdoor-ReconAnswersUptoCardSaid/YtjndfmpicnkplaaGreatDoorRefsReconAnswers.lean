/- Layers 4 and 5 by their references: digits, what is right with a text, with a message; whether two messages are the same. Plain laws. Conditions: as each theorem says. -/
import Derived.Test.YtjndfmpicnkplaaGreatDoorPReconAnswersx4
import Derived.Test.YtjndfmpicnkplaaGreatDoorPReconAnswersx7
import Derived.Test.YtjndfmpicnkplaaGreatDoorPReconAnswersx9

import Derived.Test.YtjndfmpicnkplaaGreatDoorRecY
import Derived.Test.YtjndfmpicnkplaaGreatDoorFieldNum
namespace Go.Proofs.YtjndfmpicnkplaaGreatDoor.PureReconAnswers
open Go.RowKit Go.Proofs.YtjndfmpicnkplaaGreatDoorW.PrintWords Go.Proofs.YtjndfmpicnkplaaGreatDoorW.PrintLast Go.Proofs.YtjndfmpicnkplaaGreatDoor.PReconAnswers Go.Proofs.YtjndfmpicnkplaaGreatDoor.fieldp Go.Proofs.YtjndfmpicnkplaaGreatDoor.fieldw Go.Proofs.YtjndfmpicnkplaaGreatDoor.fieldl Go.Proofs.YtjndfmpicnkplaaGreatDoor.msgp Go.Proofs.YtjndfmpicnkplaaGreatDoor.msgw

/-! What the reference says of a text. -/
theorem drop_bt (x : ByteArray) (i : Int) (h0 : 0 ≤ i) (h1 : i < (x.size : Int)) : ∃ c : UInt8, x.data.toList.drop i.toNat = c :: x.data.toList.drop (i + 1).toNat ∧ bt x i = (c.toNat : Int) := by
  have hlt : i.toNat < x.size := by omega
  refine ⟨x[i.toNat], ?_, (bt_at x i hlt).symm⟩
  rw [show (i + 1).toNat = i.toNat + 1 by omega]
  exact List.drop_eq_getElem_cons (by rw [size_list]; exact hlt)
set_option maxRecDepth 100000 in
theorem row_ten (c : UInt8) : inRow tenL c = decide (48 ≤ (c.toNat : Int) ∧ (c.toNat : Int) ≤ 57) := by
  have : ∀ i : Fin 256, inRow tenL (UInt8.ofNat i.1) = decide (48 ≤ (i.1 : Int) ∧ (i.1 : Int) ≤ 57) := by decide
  have h := this ⟨c.toNat, c.toNat_lt⟩
  rw [UInt8.ofNat_toNat] at h
  exact h

theorem ref_digit (c : UInt8) : groatref04_digit.f (c.toNat : Int) = some (inRow tenL c) := by
  rw [row_ten]
  unfold groatref04_digit.f
  by_cases h : 48 ≤ (c.toNat : Int)
  · rw [if_pos h]
    by_cases h2 : (c.toNat : Int) ≤ 57
    · simp [h, h2]
    · simp [h2]
  · rw [if_neg h]
    simp [h]

theorem ref_all_loop (x : ByteArray) (hx : x.size ≤ 1048577) : ∀ (d k : Nat) (i : Int), 0 ≤ i → (x.size : Int) - i = d → d < k → groatref04_all.l0 k x i = some ((x.data.toList.drop i.toNat).all (inRow tenL))
  | 0, k, i, h0, hd, hk => by
    obtain ⟨k, rfl⟩ : ∃ m, k = m + 1 := ⟨k - 1, by omega⟩
    rw [groatref04_all.l0, if_neg (by omega), List.drop_of_length_le (by rw [size_list]; omega)]
    rfl
  | d + 1, k, i, h0, hd, hk => by
    obtain ⟨k, rfl⟩ : ∃ m, k = m + 1 := ⟨k - 1, by omega⟩
    have hlt : i < (x.size : Int) := by omega
    obtain ⟨ch, hc, hb⟩ := drop_bt x i h0 hlt
    rw [groatref04_all.l0, if_pos hlt, if_pos h0, hb, ref_digit, hc, List.all_cons]
    simp only [Option.bind_some]
    rw [show wrap64 (i + 1) = i + 1 from IntWalk.wrap64_in _ ⟨by omega, by omega⟩]
    cases h : inRow tenL ch with
    | false => rfl
    | true =>
      rw [if_pos rfl, ref_all_loop x hx d k (i + 1) (by omega) (by omega) (by omega)]
      simp
theorem ref_all (x : ByteArray) (hx : x.size ≤ 1048577) (k : Nat) (hk : x.size < k) : groatref04_all.f k x = some (x.data.toList.all (inRow tenL)) :=
  ref_all_loop x hx x.size k 0 (by decide) (by omega) hk

set_option maxRecDepth 100000 in
theorem row_signs (c : UInt8) : inRow signsL c = (decide (48 ≤ (c.toNat : Int) ∧ (c.toNat : Int) ≤ 57) || decide (65 ≤ (c.toNat : Int) ∧ (c.toNat : Int) ≤ 90) || ((c.toNat : Int) == 32)) := by
  have : ∀ i : Fin 256, inRow signsL (UInt8.ofNat i.1) = (decide (48 ≤ (i.1 : Int) ∧ (i.1 : Int) ≤ 57) || decide (65 ≤ (i.1 : Int) ∧ (i.1 : Int) ≤ 90) || ((i.1 : Int) == 32)) := by decide
  have h := this ⟨c.toNat, c.toNat_lt⟩
  rw [UInt8.ofNat_toNat] at h
  exact h
set_option maxRecDepth 100000 in
theorem row_hex (c : UInt8) : inRow hexL c = (decide (48 ≤ (c.toNat : Int) ∧ (c.toNat : Int) ≤ 57) || decide (97 ≤ (c.toNat : Int) ∧ (c.toNat : Int) ≤ 102)) := by
  have : ∀ i : Fin 256, inRow hexL (UInt8.ofNat i.1) = (decide (48 ≤ (i.1 : Int) ∧ (i.1 : Int) ≤ 57) || decide (97 ≤ (i.1 : Int) ∧ (i.1 : Int) ≤ 102)) := by decide
  have h := this ⟨c.toNat, c.toNat_lt⟩
  rw [UInt8.ofNat_toNat] at h
  exact h
theorem ref_sign (c : UInt8) : groatref04_sign.f (c.toNat : Int) = some (inRow signsL c) := by
  unfold groatref04_sign.f
  rw [ref_digit, row_ten, row_signs]
  simp only [Option.bind_some]
  by_cases h : 48 ≤ (c.toNat : Int) ∧ (c.toNat : Int) ≤ 57
  · rw [decide_eq_true h]; rfl
  · rw [decide_eq_false h, if_neg (by simp)]
    by_cases h2 : 65 ≤ (c.toNat : Int)
    · rw [if_pos h2]
      by_cases h3 : (c.toNat : Int) ≤ 90
      · rw [if_pos h3]; simp [h2, h3]
      · rw [if_neg h3]; simp [h3]
    · rw [if_neg h2]; simp [h2]
theorem ref_hex (c : UInt8) : groatref04_hex.f (c.toNat : Int) = some (inRow hexL c) := by
  unfold groatref04_hex.f
  rw [ref_digit, row_ten, row_hex]
  simp only [Option.bind_some]
  by_cases h : 48 ≤ (c.toNat : Int) ∧ (c.toNat : Int) ≤ 57
  · rw [decide_eq_true h]; rfl
  · rw [decide_eq_false h, if_neg (by simp)]
    by_cases h2 : 97 ≤ (c.toNat : Int)
    · rw [if_pos h2]
      by_cases h3 : (c.toNat : Int) ≤ 102
      · simp [h2, h3]
      · simp [h3]
    · rw [if_neg h2]; simp [h2]
theorem ref_signs_loop (x : ByteArray) (p n c : Int) (hx : x.size ≤ 1048577) : ∀ (d k : Nat) (i : Int), 0 ≤ i → (x.size : Int) - i = d → d < k → groatref04_right.l0 k x i p n c = some ((x.data.toList.drop i.toNat).all (inRow signsL) && ((x.size : Int) == n))
  | 0, k, i, h0, hd, hk => by
    obtain ⟨k, rfl⟩ : ∃ m, k = m + 1 := ⟨k - 1, by omega⟩
    rw [groatref04_right.l0, if_neg (by omega), List.drop_of_length_le (by rw [size_list]; omega)]
    simp
  | d + 1, k, i, h0, hd, hk => by
    obtain ⟨k, rfl⟩ : ∃ m, k = m + 1 := ⟨k - 1, by omega⟩
    have hlt : i < (x.size : Int) := by omega
    obtain ⟨ch, hc, hb⟩ := drop_bt x i h0 hlt
    rw [groatref04_right.l0, if_pos hlt, if_pos h0, hb, ref_sign, hc, List.all_cons]
    simp only [Option.bind_some]
    rw [show wrap64 (i + 1) = i + 1 from IntWalk.wrap64_in _ ⟨by omega, by omega⟩]
    cases h : inRow signsL ch with
    | false => rfl
    | true =>
      rw [if_pos rfl, ref_signs_loop x p n c hx d k (i + 1) (by omega) (by omega) (by omega)]
      simp
theorem ref_hex_loop (x : ByteArray) (p n c : Int) (hx : x.size ≤ 1048577) : ∀ (d k : Nat) (i : Int), 0 ≤ i → (x.size : Int) - i = d → d < k → groatref04_right.l1 k x i p n c = some ((x.data.toList.drop i.toNat).all (inRow hexL) && ((x.size : Int) == wrap64 (2 * n)))
  | 0, k, i, h0, hd, hk => by
    obtain ⟨k, rfl⟩ : ∃ m, k = m + 1 := ⟨k - 1, by omega⟩
    rw [groatref04_right.l1, if_neg (by omega), List.drop_of_length_le (by rw [size_list]; omega)]
    simp
  | d + 1, k, i, h0, hd, hk => by
    obtain ⟨k, rfl⟩ : ∃ m, k = m + 1 := ⟨k - 1, by omega⟩
    have hlt : i < (x.size : Int) := by omega
    obtain ⟨ch, hc, hb⟩ := drop_bt x i h0 hlt
    rw [groatref04_right.l1, if_pos hlt, if_pos h0, hb, ref_hex, hc, List.all_cons]
    simp only [Option.bind_some]
    rw [show wrap64 (i + 1) = i + 1 from IntWalk.wrap64_in _ ⟨by omega, by omega⟩]
    cases h : inRow hexL ch with
    | false => rfl
    | true =>
      rw [if_pos rfl, ref_hex_loop x p n c hx d k (i + 1) (by omega) (by omega) (by omega)]
      simp
theorem ref_right (p n c : Int) (x : ByteArray) (hx : x.size ≤ 1048577) (hn : 1 ≤ n ∧ n ≤ 64) (k : Nat) (hk : x.size < k) : groatref04_right.f k p n c x = some (rightB p n x.data.toList) := by
  have hw1 : wrap64 (n + 1) = n + 1 := IntWalk.wrap64_in _ ⟨by omega, by omega⟩
  have hw2 : wrap64 (2 * n) = 2 * n := IntWalk.wrap64_in _ ⟨by omega, by omega⟩
  have ha := ref_all x hx k hk
  have h21 : ¬ ((2 : Int) = 1) := by decide
  have h51 : ¬ ((5 : Int) = 1) := by decide
  have h52 : ¬ ((5 : Int) = 2) := by decide
  have h31 : ¬ ((3 : Int) = 1) := by decide
  have h32 : ¬ ((3 : Int) = 2) := by decide
  have h35 : ¬ ((3 : Int) = 5) := by decide
  by_cases h1 : p = 1
  · subst h1
    rw [show rightB 1 n x.data.toList = (x.data.toList.all (inRow tenL) && decide ((x.data.toList.length : Int) = n)) from rfl, size_list, groatref04_right.f, if_pos rfl]
    by_cases hs : (x.size : Int) = n
    · rw [if_pos hs, ha]; simp [hs]
    · rw [if_neg hs]; simp [hs]
  · by_cases h2 : p = 2
    · subst h2
      rw [show rightB 2 n x.data.toList = (decide (0 < x.data.toList.length ∧ (x.data.toList.length : Int) ≤ n) && (x.data.toList.all (inRow tenL) && decide ((x.data.toList.length : Int) = x.data.toList.length))) from rfl, size_list, groatref04_right.f, if_neg h21, if_pos rfl]
      by_cases hs : (x.size : Int) ≥ 1
      · rw [if_pos hs]
        by_cases hs2 : (x.size : Int) ≤ n
        · rw [if_pos hs2, ha, decide_eq_true (show 0 < x.size ∧ (x.size : Int) ≤ n by omega)]
          simp
        · rw [if_neg hs2, decide_eq_false (show ¬ (0 < x.size ∧ (x.size : Int) ≤ n) by omega)]
          rfl
      · rw [if_neg hs, decide_eq_false (show ¬ (0 < x.size ∧ (x.size : Int) ≤ n) by omega)]
        rfl
    · by_cases h5 : p = 5
      · subst h5
        rw [groatref04_right.f, if_neg h51, if_neg h52, if_pos rfl, hw1]
        cases hl : x.data.toList with
        | nil =>
          have hz : x.size = 0 := by rw [← size_list, hl]; rfl
          rw [if_neg (by omega)]
          rfl
        | cons a r =>
          have hz := size_cons hl
          have hb : bt x 0 = (a.toNat : Int) := by
            rw [← bt_at x 0 (by show 0 < x.size; omega)]
            have := head_eq hl (by omega)
            rw [← this]
            rfl
          have hr := ref_all (x.extract 1 x.size) (by rw [← size_list, tail_data x a r hl]; omega) k (by rw [← size_list, tail_data x a r hl]; omega)
          rw [tail_data x a r hl] at hr
          rw [show rightB 5 n (a :: r) = ((a == 67 || a == 68) && (r.all (inRow tenL) && decide ((r.length : Int) = n))) from rfl]
          by_cases hs : (x.size : Int) = n + 1
          · have hg : 1 ≤ (x.size : Int) := by omega
            rw [if_pos hs, if_pos (by omega), hb]
            have hrl : (r.length : Int) = n := by omega
            by_cases h67 : a = 67
            · subst h67
              rw [if_pos (show ((67 : UInt8).toNat : Int) = 67 from rfl), if_pos hg, hr]
              simp [hrl]
            · have h67' : ¬ ((a.toNat : Int) = 67) := fun e => h67 (UInt8.toNat_inj.1 (by show a.toNat = 67; omega))
              rw [if_neg h67']
              by_cases h68 : a = 68
              · subst h68
                rw [if_pos (show ((68 : UInt8).toNat : Int) = 68 from rfl), if_pos hg, hr]
                simp [hrl]
              · have h68' : ¬ ((a.toNat : Int) = 68) := fun e => h68 (UInt8.toNat_inj.1 (by show a.toNat = 68; omega))
                rw [if_neg h68']
                simp [h67, h68]
          · rw [if_neg hs]
            have hrl : ¬ (r.length : Int) = n := by omega
            simp [hrl]
      · by_cases h3 : p = 3
        · subst h3
          rw [show rightB 3 n x.data.toList = (x.data.toList.all (inRow signsL) && decide ((x.data.toList.length : Int) = n)) from rfl, size_list, groatref04_right.f, if_neg h31, if_neg h32, if_neg h35, if_pos rfl, ref_signs_loop x _ n c hx x.size k 0 (by decide) (by omega) hk]
          rfl
        · have e : rightB p n x.data.toList = (x.data.toList.all (inRow hexL) && decide ((x.data.toList.length : Int) = 2 * n)) := by simp [rightB, h1, h2, h3, h5, ofB]
          rw [e, size_list, groatref04_right.f, if_neg h1, if_neg h2, if_neg h5, if_neg h3, ref_hex_loop x _ n c hx x.size k 0 (by decide) (by omega) hk, hw2]
          rfl
theorem ref_may (p n c : Int) : groatref04_may.f p n c = some (mayB p n c) := by
  unfold groatref04_may.f mayB
  by_cases a : p ≥ 1 <;> by_cases b : p ≤ 5 <;> by_cases d : n ≥ 1 <;> by_cases e : n ≤ 64 <;> by_cases f : c ≥ 1 <;> by_cases g : c ≤ 3 <;> simp [a, b, d, e, f, g] <;> omega

theorem ref_check (p n c : Int) (x : ByteArray) (hx : x.size ≤ 1048577) (k : Nat) (hk : x.size < k) : groatref04_Check.f k p n c x = some (checkR p n c x.data.toList) := by
  unfold groatref04_Check.f checkR
  rw [ref_may]
  simp only [Option.bind_some]
  cases hm : mayB p n c with
  | false => rfl
  | true =>
    have hn : 1 ≤ n ∧ n ≤ 64 := by simp [mayB] at hm; omega
    rw [if_pos rfl, if_pos rfl, ref_right p n c x hx hn k hk]
    cases rightB p n x.data.toList <;> rfl

/-- A message's fields, as the print has them. -/
def fldS (x : S43) : Fld := (x.f0, x.f1)
theorem rd_at (l : List S43) (i : Nat) (hi : i < l.length) : rd_T43 l (i : Int) = l[i] := by
  simp [rd_T43, List.getD_eq_getElem?_getD, hi]
theorem ref_there (no : Int) (k : Nat) (hk : 10 < k) : groatref05_there.f k no = some (match formF no 0 with | none => (0, 0) | some x => x) := by
  obtain ⟨k, rfl⟩ : ∃ m, k = m + 4 := ⟨k - 4, by omega⟩
  by_cases h : no = 2 ∨ no = 3 ∨ no = 4 ∨ no = 7 ∨ no = 11 ∨ no = 32 ∨ no = 38 ∨ no = 39 ∨ no = 49 ∨ no = 64 ∨ no = 70 ∨ no = 74 ∨ no = 76 ∨ no = 86 ∨ no = 88 ∨ no = 90 ∨ no = 97
  · rcases h with rfl | rfl | rfl | rfl | rfl | rfl | rfl | rfl | rfl | rfl | rfl | rfl | rfl | rfl | rfl | rfl | rfl <;> rfl
  · simp only [not_or] at h
    obtain ⟨h1, h2, h3, h4, h5, h6, h7, h8, h9, h10, h11, h12, h13, h14, h15, h16, h17⟩ := h
    have hf : formF no 0 = none := by
      unfold formF fieldAt
      have hl : fieldsL.findIdx (fun x => decide (x.1 = no)) = 17 := by
        simp [fieldsL, List.findIdx_cons, Ne.symm h1, Ne.symm h2, Ne.symm h3, Ne.symm h4, Ne.symm h5, Ne.symm h6, Ne.symm h7, Ne.symm h8, Ne.symm h9, Ne.symm h10, Ne.symm h11, Ne.symm h12, Ne.symm h13, Ne.symm h14, Ne.symm h15, Ne.symm h16, Ne.symm h17]
      rw [dif_neg (by rw [hl]; decide)]
    rw [hf]
    simp [groatref05_there.f, groatref05_there.j0, groatref05_there.j1, groatref05_there.j2, groatref05_there.j3, h1, h2, h3, h4, h5, h6, h7, h8, h9, h10, h11, h12, h13, h14, h15, h16, h17]
theorem form_kind (no out : Int) (x : Int × Int) (h : formF no out = some x) : x.1 ≠ 0 := by
  unfold formF at h
  split at h
  · rename_i h17
    obtain rfl := Option.some.inj h
    have := fields_small (fieldAt no) h17
    show fieldsL[fieldAt no].2.1 ≠ 0
    omega
  · cases h
theorem ref_form1 (no : Int) (k : Nat) (hk : 20 < k) : groatref05_Form.f k 1 no = some (match formF no 0 with | none => (0, 0, 0, 52) | some x => (x.1, x.2, 1, 0)) := by
  obtain ⟨k, rfl⟩ : ∃ m, k = m + 1 := ⟨k - 1, by omega⟩
  unfold groatref05_Form.f
  rw [if_neg (by decide), groatref05_Form.j0, if_neg (by decide), ref_there no k (by omega), Option.bind_some]
  cases e : formF no 0 with
  | none => rfl
  | some x =>
    have := form_kind no 0 x e
    dsimp only
    rw [if_neg this, if_neg (by decide)]
theorem ref_same_loop (t1 t2 : Int) (l1 l2 : List S43) (hl : l1.length = l2.length) (hm : l1.length ≤ 1048576) : ∀ (d k i : Nat), i + d = l1.length → d < k →
    groatref05_Same.l0 k i t1 l1 t2 l2 = some (decide ((l1.map fldS).drop i = (l2.map fldS).drop i))
  | 0, k, i, hd, hk => by
    obtain ⟨k, rfl⟩ : ∃ m, k = m + 1 := ⟨k - 1, by omega⟩
    rw [groatref05_Same.l0, if_neg (by omega), List.drop_eq_nil_of_le (by simp; omega), List.drop_eq_nil_of_le (by simp; omega)]
    simp
  | d + 1, k, i, hd, hk => by
    obtain ⟨k, rfl⟩ : ∃ m, k = m + 1 := ⟨k - 1, by omega⟩
    have h1 : i < l1.length := by omega
    have h2 : i < l2.length := by omega
    rw [groatref05_Same.l0, if_pos (by omega), if_pos (by omega), if_pos (by omega), rd_at l1 i h1, rd_at l2 i h2, List.drop_eq_getElem_cons (l := l1.map fldS) (by simpa using h1), List.drop_eq_getElem_cons (l := l2.map fldS) (by simpa using h2)]
    have ih := ref_same_loop t1 t2 l1 l2 hl hm d k (i + 1) (by omega) (by omega)
    by_cases e0 : l1[i].f0 = l2[i].f0
    · by_cases e1 : l1[i].f1 = l2[i].f1
      · rw [if_neg (by simp [e0, e1]), show wrap64 ((i : Int) + 1) = ((i + 1 : Nat) : Int) from by rw [IntWalk.wrap64_in _ ⟨by omega, by omega⟩]; rfl, ih]
        simp [fldS, e0, e1]
      · have e2 : ¬ l1[i].f1.toList = l2[i].f1.toList := fun h => e1 (by
          rw [ByteArray.toList_eq, ByteArray.toList_eq] at h
          exact ByteArray.ext (Array.ext' h))
        rw [if_pos (by simp [e0, e2])]
        simp [fldS, e1]
    · rw [if_pos (by simp [e0])]
      simp [fldS, e0]
theorem ref_same (t1 t2 : Int) (l1 l2 : List S43) (hm : l1.length ≤ 1048576) (k : Nat) (hk : 1048600 < k) : groatref05_Same.f k t1 l1 t2 l2 = some (decide (t1 = t2) && decide (l1.map fldS = l2.map fldS)) := by
  obtain ⟨k, rfl⟩ : ∃ m, k = m + 1 := ⟨k - 1, by omega⟩
  unfold groatref05_Same.f
  by_cases h : t1 = t2
  · rw [if_pos h, groatref05_Same.j0]
    by_cases h2 : l1.length = l2.length
    · rw [if_neg (by simp [h2])]
      have := ref_same_loop t1 t2 l1 l2 h2 hm l1.length k 0 (by omega) (by omega)
      simp only [List.drop_zero] at this
      rw [show ((0 : Nat) : Int) = 0 from rfl] at this
      rw [this, decide_eq_true h, Bool.true_and]
    · rw [if_pos (by simpa using fun h : (l1.length : Int) = l2.length => h2 (by omega))]
      have : ¬ l1.map fldS = l2.map fldS := fun e => h2 (by have := congrArg List.length e; simpa using this)
      simp [this]
  · rw [if_neg h, groatref05_Same.j0, if_pos rfl]
    simp [h]
end Go.Proofs.YtjndfmpicnkplaaGreatDoor.PureReconAnswers
