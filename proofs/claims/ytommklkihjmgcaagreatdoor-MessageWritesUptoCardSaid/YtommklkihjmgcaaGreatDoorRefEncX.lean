/- Layers 4 and 5 by their references: what Put and Check of a field, Check of a message, and the small parts of Encode compute. Layer 5: the map's bytes as the reference makes them: plain laws. No walk. Layer 5: the reference's Encode, walked. Layer 5: the reference's Encode: any message. Conditions: as each theorem says. -/
import Derived.Test.YtommklkihjmgcaaGreatDoorRPutB
import Derived.Test.YtommklkihjmgcaaGreatDoorRefForm
import Derived.Test.YtommklkihjmgcaaGreatDoorPurY
import Derived.Test.YtommklkihjmgcaaGreatDoorLawX
import Derived.StillTailTactics
import Derived.Deep.DeepCutAuto
import Derived.Test.YtommklkihjmgcaaGreatDoorWInvWords
import Derived.Test.YtommklkihjmgcaaGreatDoorWApart
namespace Go.Proofs.YtommklkihjmgcaaGreatDoor.msgr
open Go.RowKit Go.Proofs.YtommklkihjmgcaaGreatDoorW.PrintWords Go.Proofs.YtommklkihjmgcaaGreatDoorW.PrintLast Go.Proofs.YtommklkihjmgcaaGreatDoor.PMessageBack Go.Proofs.YtommklkihjmgcaaGreatDoor.fieldp Go.Proofs.YtommklkihjmgcaaGreatDoor.fieldw Go.Proofs.YtommklkihjmgcaaGreatDoor.fieldl Go.Proofs.YtommklkihjmgcaaGreatDoor.msgp Go.Proofs.YtommklkihjmgcaaGreatDoor.msgw
/-! What the reference says of a text. -/
theorem drop_bt (x : ByteArray) (i : Int) (h0 : 0 ≤ i) (h1 : i < (x.size : Int)) : ∃ c : UInt8, x.data.toList.drop i.toNat = c :: x.data.toList.drop (i + 1).toNat ∧ bt x i = (c.toNat : Int) := by
 have hlt : i.toNat < x.size := by omega
 refine ⟨x[i.toNat], ?_, (bt_at x i hlt).symm⟩
 rw [show (i + 1).toNat = i.toNat + 1 by omega]
 exact List.drop_eq_getElem_cons (by rw [size_list]; exact hlt)
set_option maxRecDepth 100000 in
theorem row_ten (c : UInt8) : inRow tenL c = decide (48 ≤ (c.toNat : Int) ∧ (c.toNat : Int) ≤ 57) := by
 have : ∀ i : Fin 256, inRow tenL (UInt8.ofNat i.1) = decide (48 ≤ (i.1 : Int) ∧ (i.1 : Int) ≤ 57) := by decide
 have h := this ⟨c.toNat, c.toNat_lt⟩
 rw [UInt8.ofNat_toNat] at h
 exact h
theorem ref_digit (c : UInt8) : groatref04_digit.f (c.toNat : Int) = some (inRow tenL c) := by
 rw [row_ten]
 unfold groatref04_digit.f
 by_cases h : 48 ≤ (c.toNat : Int)
 ·rw [if_pos h]
  by_cases h2 : (c.toNat : Int) ≤ 57
  ·simp [h, h2]
  ·simp [h2]
 ·rw [if_neg h]
  simp [h]
theorem ref_all_loop (x : ByteArray) (hx : x.size ≤ 1048577) : ∀ (d k : Nat) (i : Int), 0 ≤ i → (x.size : Int) - i = d → d < k → groatref04_all.l0 k x i = some ((x.data.toList.drop i.toNat).all (inRow tenL))
 | 0, k, i, h0, hd, hk => by
  obtain ⟨k, rfl⟩ : ∃ m, k = m + 1 := ⟨k - 1, by omega⟩
  rw [groatref04_all.l0, if_neg (by omega), List.drop_of_length_le (by rw [size_list]; omega)]
  rfl
 | d + 1, k, i, h0, hd, hk => by
  obtain ⟨k, rfl⟩ : ∃ m, k = m + 1 := ⟨k - 1, by omega⟩
  have hlt : i < (x.size : Int) := by omega
  obtain ⟨ch, hc, hb⟩ := drop_bt x i h0 hlt
  rw [groatref04_all.l0, if_pos hlt, if_pos h0, hb, ref_digit, hc, List.all_cons]
  simp only [Option.bind_some]
  rw [show wrap64 (i + 1) = i + 1 from IntWalk.wrap64_in _ ⟨by omega, by omega⟩]
  cases h : inRow tenL ch with
  | false => rfl
  | true =>
   rw [if_pos rfl, ref_all_loop x hx d k (i + 1) (by omega) (by omega) (by omega)]
   simp
theorem ref_all (x : ByteArray) (hx : x.size ≤ 1048577) (k : Nat) (hk : x.size < k) : groatref04_all.f k x = some (x.data.toList.all (inRow tenL)) :=
 ref_all_loop x hx x.size k 0 (by decide) (by omega) hk
set_option maxRecDepth 100000 in
theorem row_signs (c : UInt8) : inRow signsL c = (decide (48 ≤ (c.toNat : Int) ∧ (c.toNat : Int) ≤ 57) || decide (65 ≤ (c.toNat : Int) ∧ (c.toNat : Int) ≤ 90) || ((c.toNat : Int) == 32)) := by
 have : ∀ i : Fin 256, inRow signsL (UInt8.ofNat i.1) = (decide (48 ≤ (i.1 : Int) ∧ (i.1 : Int) ≤ 57) || decide (65 ≤ (i.1 : Int) ∧ (i.1 : Int) ≤ 90) || ((i.1 : Int) == 32)) := by decide
 have h := this ⟨c.toNat, c.toNat_lt⟩
 rw [UInt8.ofNat_toNat] at h
 exact h
set_option maxRecDepth 100000 in
theorem row_hex (c : UInt8) : inRow hexL c = (decide (48 ≤ (c.toNat : Int) ∧ (c.toNat : Int) ≤ 57) || decide (97 ≤ (c.toNat : Int) ∧ (c.toNat : Int) ≤ 102)) := by
 have : ∀ i : Fin 256, inRow hexL (UInt8.ofNat i.1) = (decide (48 ≤ (i.1 : Int) ∧ (i.1 : Int) ≤ 57) || decide (97 ≤ (i.1 : Int) ∧ (i.1 : Int) ≤ 102)) := by decide
 have h := this ⟨c.toNat, c.toNat_lt⟩
 rw [UInt8.ofNat_toNat] at h
 exact h
theorem ref_sign (c : UInt8) : groatref04_sign.f (c.toNat : Int) = some (inRow signsL c) := by
 unfold groatref04_sign.f
 rw [ref_digit, row_ten, row_signs]
 simp only [Option.bind_some]
 by_cases h : 48 ≤ (c.toNat : Int) ∧ (c.toNat : Int) ≤ 57
 ·rw [decide_eq_true h]; rfl
 ·rw [decide_eq_false h, if_neg (by simp)]
  by_cases h2 : 65 ≤ (c.toNat : Int)
  ·rw [if_pos h2]
   by_cases h3 : (c.toNat : Int) ≤ 90
   ·rw [if_pos h3]; simp [h2, h3]
   ·rw [if_neg h3]; simp [h3]
  ·rw [if_neg h2]; simp [h2]
theorem ref_hex (c : UInt8) : groatref04_hex.f (c.toNat : Int) = some (inRow hexL c) := by
 unfold groatref04_hex.f
 rw [ref_digit, row_ten, row_hex]
 simp only [Option.bind_some]
 by_cases h : 48 ≤ (c.toNat : Int) ∧ (c.toNat : Int) ≤ 57
 ·rw [decide_eq_true h]; rfl
 ·rw [decide_eq_false h, if_neg (by simp)]
  by_cases h2 : 97 ≤ (c.toNat : Int)
  ·rw [if_pos h2]
   by_cases h3 : (c.toNat : Int) ≤ 102
   ·simp [h2, h3]
   ·simp [h3]
  ·rw [if_neg h2]; simp [h2]
theorem ref_signs_loop (x : ByteArray) (p n c : Int) (hx : x.size ≤ 1048577) : ∀ (d k : Nat) (i : Int), 0 ≤ i → (x.size : Int) - i = d → d < k → groatref04_right.l0 k x i p n c = some ((x.data.toList.drop i.toNat).all (inRow signsL) && ((x.size : Int) == n))
 | 0, k, i, h0, hd, hk => by
  obtain ⟨k, rfl⟩ : ∃ m, k = m + 1 := ⟨k - 1, by omega⟩
  rw [groatref04_right.l0, if_neg (by omega), List.drop_of_length_le (by rw [size_list]; omega)]
  simp
 | d + 1, k, i, h0, hd, hk => by
  obtain ⟨k, rfl⟩ : ∃ m, k = m + 1 := ⟨k - 1, by omega⟩
  have hlt : i < (x.size : Int) := by omega
  obtain ⟨ch, hc, hb⟩ := drop_bt x i h0 hlt
  rw [groatref04_right.l0, if_pos hlt, if_pos h0, hb, ref_sign, hc, List.all_cons]
  simp only [Option.bind_some]
  rw [show wrap64 (i + 1) = i + 1 from IntWalk.wrap64_in _ ⟨by omega, by omega⟩]
  cases h : inRow signsL ch with
  | false => rfl
  | true =>
   rw [if_pos rfl, ref_signs_loop x p n c hx d k (i + 1) (by omega) (by omega) (by omega)]
   simp
theorem ref_hex_loop (x : ByteArray) (p n c : Int) (hx : x.size ≤ 1048577) : ∀ (d k : Nat) (i : Int), 0 ≤ i → (x.size : Int) - i = d → d < k → groatref04_right.l1 k x i p n c = some ((x.data.toList.drop i.toNat).all (inRow hexL) && ((x.size : Int) == wrap64 (2 * n)))
 | 0, k, i, h0, hd, hk => by
  obtain ⟨k, rfl⟩ : ∃ m, k = m + 1 := ⟨k - 1, by omega⟩
  rw [groatref04_right.l1, if_neg (by omega), List.drop_of_length_le (by rw [size_list]; omega)]
  simp
 | d + 1, k, i, h0, hd, hk => by
  obtain ⟨k, rfl⟩ : ∃ m, k = m + 1 := ⟨k - 1, by omega⟩
  have hlt : i < (x.size : Int) := by omega
  obtain ⟨ch, hc, hb⟩ := drop_bt x i h0 hlt
  rw [groatref04_right.l1, if_pos hlt, if_pos h0, hb, ref_hex, hc, List.all_cons]
  simp only [Option.bind_some]
  rw [show wrap64 (i + 1) = i + 1 from IntWalk.wrap64_in _ ⟨by omega, by omega⟩]
  cases h : inRow hexL ch with
  | false => rfl
  | true =>
   rw [if_pos rfl, ref_hex_loop x p n c hx d k (i + 1) (by omega) (by omega) (by omega)]
   simp
theorem ref_right (p n c : Int) (x : ByteArray) (hx : x.size ≤ 1048577) (hn : 1 ≤ n ∧ n ≤ 64) (k : Nat) (hk : x.size < k) : groatref04_right.f k p n c x = some (rightB p n x.data.toList) := by
 have hw1 : wrap64 (n + 1) = n + 1 := IntWalk.wrap64_in _ ⟨by omega, by omega⟩
 have hw2 : wrap64 (2 * n) = 2 * n := IntWalk.wrap64_in _ ⟨by omega, by omega⟩
 have ha := ref_all x hx k hk
 have h21 : ¬ ((2 : Int) = 1) := by decide
 have h51 : ¬ ((5 : Int) = 1) := by decide
 have h52 : ¬ ((5 : Int) = 2) := by decide
 have h31 : ¬ ((3 : Int) = 1) := by decide
 have h32 : ¬ ((3 : Int) = 2) := by decide
 have h35 : ¬ ((3 : Int) = 5) := by decide
 by_cases h1 : p = 1
 ·subst h1
  rw [show rightB 1 n x.data.toList = (x.data.toList.all (inRow tenL) && decide ((x.data.toList.length : Int) = n)) from rfl, size_list, groatref04_right.f, if_pos rfl]
  by_cases hs : (x.size : Int) = n
  ·rw [if_pos hs, ha]; simp [hs]
  ·rw [if_neg hs]; simp [hs]
 ·by_cases h2 : p = 2
  ·subst h2
   rw [show rightB 2 n x.data.toList = (decide (0 < x.data.toList.length ∧ (x.data.toList.length : Int) ≤ n) && (x.data.toList.all (inRow tenL) && decide ((x.data.toList.length : Int) = x.data.toList.length))) from rfl, size_list, groatref04_right.f, if_neg h21, if_pos rfl]
   by_cases hs : (x.size : Int) ≥ 1
   ·rw [if_pos hs]
    by_cases hs2 : (x.size : Int) ≤ n
    ·rw [if_pos hs2, ha, decide_eq_true (show 0 < x.size ∧ (x.size : Int) ≤ n by omega)]
     simp
    ·rw [if_neg hs2, decide_eq_false (show ¬ (0 < x.size ∧ (x.size : Int) ≤ n) by omega)]
     rfl
   ·rw [if_neg hs, decide_eq_false (show ¬ (0 < x.size ∧ (x.size : Int) ≤ n) by omega)]
    rfl
  ·by_cases h5 : p = 5
   ·subst h5
    rw [groatref04_right.f, if_neg h51, if_neg h52, if_pos rfl, hw1]
    cases hl : x.data.toList with
    | nil =>
     have hz : x.size = 0 := by rw [← size_list, hl]; rfl
     rw [if_neg (by omega)]
     rfl
    | cons a r =>
     have hz := size_cons hl
     have hb : bt x 0 = (a.toNat : Int) := by
      rw [← bt_at x 0 (by show 0 < x.size; omega)]
      have := head_eq hl (by omega)
      rw [← this]
      rfl
     have hr := ref_all (x.extract 1 x.size) (by rw [← size_list, tail_data x a r hl]; omega) k (by rw [← size_list, tail_data x a r hl]; omega)
     rw [tail_data x a r hl] at hr
     rw [show rightB 5 n (a :: r) = ((a == 67 || a == 68) && (r.all (inRow tenL) && decide ((r.length : Int) = n))) from rfl]
     by_cases hs : (x.size : Int) = n + 1
     ·have hg : 1 ≤ (x.size : Int) := by omega
      rw [if_pos hs, if_pos (by omega), hb]
      have hrl : (r.length : Int) = n := by omega
      by_cases h67 : a = 67
      ·subst h67
       rw [if_pos (show ((67 : UInt8).toNat : Int) = 67 from rfl), if_pos hg, hr]
       simp [hrl]
      ·have h67' : ¬ ((a.toNat : Int) = 67) := fun e => h67 (UInt8.toNat_inj.1 (by show a.toNat = 67; omega))
       rw [if_neg h67']
       by_cases h68 : a = 68
       ·subst h68
        rw [if_pos (show ((68 : UInt8).toNat : Int) = 68 from rfl), if_pos hg, hr]
        simp [hrl]
       ·have h68' : ¬ ((a.toNat : Int) = 68) := fun e => h68 (UInt8.toNat_inj.1 (by show a.toNat = 68; omega))
        rw [if_neg h68']
        simp [h67, h68]
     ·rw [if_neg hs]
      have hrl : ¬ (r.length : Int) = n := by omega
      simp [hrl]
   ·by_cases h3 : p = 3
    ·subst h3
     rw [show rightB 3 n x.data.toList = (x.data.toList.all (inRow signsL) && decide ((x.data.toList.length : Int) = n)) from rfl, size_list, groatref04_right.f, if_neg h31, if_neg h32, if_neg h35, if_pos rfl, ref_signs_loop x _ n c hx x.size k 0 (by decide) (by omega) hk]
     rfl
    ·have e : rightB p n x.data.toList = (x.data.toList.all (inRow hexL) && decide ((x.data.toList.length : Int) = 2 * n)) := by simp [rightB, h1, h2, h3, h5, ofB]
     rw [e, size_list, groatref04_right.f, if_neg h1, if_neg h2, if_neg h5, if_neg h3, ref_hex_loop x _ n c hx x.size k 0 (by decide) (by omega) hk, hw2]
     rfl
theorem ref_may (p n c : Int) : groatref04_may.f p n c = some (mayB p n c) := by
 unfold groatref04_may.f mayB
 by_cases a : p ≥ 1 <;> by_cases b : p ≤ 5 <;> by_cases d : n ≥ 1 <;> by_cases e : n ≤ 64 <;> by_cases f : c ≥ 1 <;> by_cases g : c ≤ 3 <;> simp [a, b, d, e, f, g] <;> omega
theorem ref_check (p n c : Int) (x : ByteArray) (hx : x.size ≤ 1048577) (k : Nat) (hk : x.size < k) : groatref04_Check.f k p n c x = some (checkR p n c x.data.toList) := by
 unfold groatref04_Check.f checkR
 rw [ref_may]
 simp only [Option.bind_some]
 cases hm : mayB p n c with
 | false => rfl
 | true =>
  have hn : 1 ≤ n ∧ n ≤ 64 := by simp [mayB] at hm; omega
  rw [if_pos rfl, if_pos rfl, ref_right p n c x hx hn k hk]
  cases rightB p n x.data.toList <;> rfl
/-! What the reference writes. -/
set_option maxRecDepth 100000 in
theorem value_hex {c : UInt8} (h : isHex c) : groatref04_value.f (c.toNat : Int) = some (hv c : Int) := by
 have hr : inRow hexL c = true := decide_eq_true h
 have key : ∀ i : Fin 256, Lib.indexByte hexL (UInt8.ofNat i.1) ≠ -1 → ((48 ≤ (i.1 : Int) ∧ (i.1 : Int) ≤ 57 ∧ ((i.1 : Int) - 48) % 256 = (Lib.indexByte hexL (UInt8.ofNat i.1)).toNat) ∨ (¬ (48 ≤ (i.1 : Int) ∧ (i.1 : Int) ≤ 57) ∧ (((i.1 : Int) - 97) % 256 + 10) = (Lib.indexByte hexL (UInt8.ofNat i.1)).toNat)) := by decide
 have h2 := key ⟨c.toNat, c.toNat_lt⟩ (by rw [UInt8.ofNat_toNat]; exact h)
 simp only [UInt8.ofNat_toNat] at h2
 unfold groatref04_value.f
 rw [ref_digit, row_ten]
 simp only [Option.bind_some]
 rcases h2 with ⟨a, b, e⟩ | ⟨a, e⟩
 ·rw [decide_eq_true ⟨a, b⟩, if_pos rfl, e]
  rfl
 ·rw [decide_eq_false a, if_neg (by simp), e]
  rfl
theorem packed_loop (x : ByteArray) (hx : x.size ≤ 1048580) (hh : ∀ c ∈ x.data.toList, isHex c) (he : x.size % 2 = 0) : ∀ (d k : Nat) (i : Int) (acc : List Int), 0 ≤ i → i.toNat % 2 = 0 → (x.size : Int) - i = 2 * d → d < k →
  acc.length + d ≤ 2097154 → groatref04_packed.l0 k x acc i = some (acc ++ nums8 (packE (x.data.toList.drop i.toNat)))
 | 0, k, i, acc, h0, _, hd, hk, _ => by
  obtain ⟨k, rfl⟩ : ∃ m, k = m + 1 := ⟨k - 1, by omega⟩
  rw [groatref04_packed.l0, if_neg (by omega), List.drop_of_length_le (by rw [size_list]; omega)]
  simp [packE, nums8]
 | d + 1, k, i, acc, h0, hp, hd, hk, hs => by
  obtain ⟨k, rfl⟩ : ∃ m, k = m + 1 := ⟨k - 1, by omega⟩
  obtain ⟨a, hca, hba⟩ := drop_bt x i h0 (by omega)
  obtain ⟨b, hcb, hbb⟩ := drop_bt x (i + 1) (by omega) (by omega)
  have hma : isHex a := hh a (List.mem_of_mem_drop (i := i.toNat) (by rw [hca]; simp))
  have hmb : isHex b := hh b (List.mem_of_mem_drop (i := (i + 1).toNat) (by rw [hcb]; simp))
  have la := hv_lt hma
  have lb := hv_lt hmb
  have hbyte : (wrap64 (wrap64 (16 * (hv a : Int)) + (hv b : Int))) % 256 = (((16 * hv a + hv b).toUInt8.toNat : Nat) : Int) := by
   rw [IntWalk.wrap64_in (16 * (hv a : Int)) ⟨by omega, by omega⟩, IntWalk.wrap64_in _ ⟨by omega, by omega⟩]
   simp only [Nat.toUInt8, UInt8.toNat_ofNat']
   omega
  rw [groatref04_packed.l0, if_pos (by omega), if_pos h0, hba, value_hex hma]
  simp only [Option.bind_some]
  rw [IntWalk.wrap64_in (i + 1) ⟨by omega, by omega⟩, if_pos (by omega), if_pos (by omega), hbb, value_hex hmb]
  simp only [Option.bind_some]
  rw [if_pos (by omega), IntWalk.wrap64_in (i + 2) ⟨by omega, by omega⟩, hbyte]
  have hal : (acc ++ [(((16 * hv a + hv b).toUInt8.toNat : Nat) : Int)]).length = acc.length + 1 := by simp
  rw [packed_loop x hx hh he d k (i + 2) _ (by omega) (by omega) (by omega) (by omega) (by omega)]
  rw [hca, hcb, show (i + 1 + 1).toNat = (i + 2).toNat by omega]
  simp [packE, nums8]
theorem ref_packed (x : ByteArray) (hx : x.size ≤ 1048577) (hh : ∀ c ∈ x.data.toList, isHex c) (k : Nat) (hk : x.size + 10 < k) : groatref04_packed.f k x = some (nums8 (packL x.data.toList)) := by
 obtain ⟨k, rfl⟩ : ∃ m, k = m + 1 := ⟨k - 1, by omega⟩
 unfold groatref04_packed.f
 by_cases h : ((x.size : Int) % 2) = 1
 ·have hsz : ((⟨#[48]⟩ : ByteArray) ++ x).size = 1 + x.size := by rw [ByteArray.size_append]; rfl
  have hl : ((⟨#[48]⟩ : ByteArray) ++ x).data.toList = 48 :: x.data.toList := by simp
  have he : evened x.data.toList = 48 :: x.data.toList := by
   unfold evened
   rw [if_pos (by rw [size_list]; omega)]
  rw [if_pos h, if_pos (by omega), groatref04_packed.j0, packed_loop _ (by omega) (by
   rw [hl, ← he]
   exact evened_hex hh) (by omega) (x.size / 2 + 1) k 0 [] (by decide) rfl (by rw [hsz]; omega) (by omega) (by simp; omega)]
  rw [show (0 : Int).toNat = 0 from rfl, List.drop_zero, hl, ← he]
  rfl
 ·have he : evened x.data.toList = x.data.toList := by
   unfold evened
   rw [if_neg (by rw [size_list]; omega)]
  rw [if_neg h, groatref04_packed.j0, packed_loop _ (by omega) hh (by omega) (x.size / 2) k 0 [] (by decide) rfl (by omega) (by omega) (by simp; omega)]
  rw [show (0 : Int).toNat = 0 from rfl, List.drop_zero]
  unfold packL
  rw [he]
  rfl
set_option maxRecDepth 100000 in
theorem ref_ebcdic {c : UInt8} (h : inRow signsL c = true) (k : Nat) (hk : 3 ≤ k) : groatref04_ebcdic.f k (c.toNat : Int) = some (((ebcB.data.toList.getD (Lib.indexByte signsL c).toNat 0).toNat : Nat) : Int) := by
 obtain ⟨k, rfl⟩ : ∃ m, k = m + 2 := ⟨k - 2, by omega⟩
 have key : ∀ i : Fin 256, inRow signsL (UInt8.ofNat i.1) = true → (if 48 ≤ (i.1 : Int) ∧ (i.1 : Int) ≤ 57 then (240 + (i.1 : Int) - 48) % 256 else if 65 ≤ (i.1 : Int) ∧ (i.1 : Int) ≤ 73 then (193 + (i.1 : Int) - 65) % 256 else if 74 ≤ (i.1 : Int) ∧ (i.1 : Int) ≤ 82 then (209 + (i.1 : Int) - 74) % 256 else if 83 ≤ (i.1 : Int) ∧ (i.1 : Int) ≤ 90 then (226 + (i.1 : Int) - 83) % 256 else 64) = (((ebcB.data.toList.getD (Lib.indexByte signsL (UInt8.ofNat i.1)).toNat 0).toNat : Nat) : Int) := by decide
 have h2 := key ⟨c.toNat, c.toNat_lt⟩ (by rw [UInt8.ofNat_toNat]; exact h)
 simp only [UInt8.ofNat_toNat] at h2
 rw [← h2]
 clear h2 key h
 unfold groatref04_ebcdic.f
 rw [ref_digit, row_ten]
 simp only [Option.bind_some]
 generalize (c.toNat : Int) = n
 by_cases a : 48 ≤ n ∧ n ≤ 57
 ·rw [decide_eq_true a, if_pos rfl, if_pos a]
 ·rw [decide_eq_false a, if_neg (by simp), if_neg a]
  by_cases b : n ≥ 65
  ·rw [if_pos b, groatref04_ebcdic.j0]
   by_cases d : n ≤ 73
   ·rw [decide_eq_true d, if_pos rfl, if_pos ⟨b, d⟩]
   ·rw [decide_eq_false d, if_neg (by simp), if_neg (show ¬ (65 ≤ n ∧ n ≤ 73) by omega)]
    by_cases e : n ≥ 74
    ·rw [if_pos e, groatref04_ebcdic.j1]
     by_cases f : n ≤ 82
     ·rw [decide_eq_true f, if_pos rfl, if_pos ⟨e, f⟩]
     ·rw [decide_eq_false f, if_neg (by simp), if_neg (show ¬ (74 ≤ n ∧ n ≤ 82) by omega)]
      by_cases g : n ≥ 83
      ·rw [if_pos g]
       by_cases o : n ≤ 90
       ·rw [if_pos o, if_pos ⟨g, o⟩]
       ·rw [if_neg o, if_neg (show ¬ (83 ≤ n ∧ n ≤ 90) by omega)]
      ·rw [if_neg g, if_neg (show ¬ (83 ≤ n ∧ n ≤ 90) by omega)]
    ·exact absurd (show n ≥ 74 by omega) e
  ·rw [if_neg b, groatref04_ebcdic.j0, if_neg (by simp), if_neg (show ¬ (65 ≤ n ∧ n ≤ 73) by omega), if_neg (show ¬ (n ≥ 74) by omega), groatref04_ebcdic.j1, if_neg (by simp), if_neg (show ¬ (74 ≤ n ∧ n ≤ 82) by omega), if_neg (show ¬ (n ≥ 83) by omega), if_neg (show ¬ (83 ≤ n ∧ n ≤ 90) by omega)]
def signB (c : Int) (b : UInt8) : UInt8 := if c = 3 then ebcB.data.toList.getD (Lib.indexByte signsL b).toNat 0 else b
theorem signs_loop (c : Int) (x : ByteArray) (hx : x.size ≤ 1048577) (ha : x.data.toList.all (inRow signsL) = true) : ∀ (d k : Nat) (i : Int) (acc : List Int), 0 ≤ i → (x.size : Int) - i = d → d + 3 < k → acc.length + d ≤ 2097154 →
  groatref04_signs.l0 k c x acc i = some (acc ++ nums8 ((x.data.toList.drop i.toNat).map (signB c)))
 | 0, k, i, acc, h0, hd, hk, _ => by
  obtain ⟨k, rfl⟩ : ∃ m, k = m + 1 := ⟨k - 1, by omega⟩
  rw [groatref04_signs.l0, if_neg (by omega), List.drop_of_length_le (by rw [size_list]; omega)]
  simp [nums8]
 | d + 1, k, i, acc, h0, hd, hk, hs => by
  obtain ⟨k, rfl⟩ : ∃ m, k = m + 1 := ⟨k - 1, by omega⟩
  have hlt : i < (x.size : Int) := by omega
  obtain ⟨b, hc, hb⟩ := drop_bt x i h0 hlt
  have hin := List.all_eq_true.1 ha b (List.mem_of_mem_drop (i := i.toNat) (by rw [hc]; simp))
  rw [groatref04_signs.l0, if_pos hlt]
  by_cases h3 : c = 3
  ·rw [if_pos h3, if_pos h0, hb, ref_ebcdic hin k (by omega)]
   simp only [Option.bind_some]
   rw [if_pos (by omega), IntWalk.wrap64_in (i + 1) ⟨by omega, by omega⟩, signs_loop c x hx ha d k (i + 1) _ (by omega) (by omega) (by omega) (by simp; omega), hc]
   simp [nums8, signB, h3]
  ·rw [if_neg h3, if_pos h0, if_pos (by omega), IntWalk.wrap64_in (i + 1) ⟨by omega, by omega⟩, hb, signs_loop c x hx ha d k (i + 1) _ (by omega) (by omega) (by omega) (by simp; omega), hc]
   simp [nums8, signB, h3]
theorem ref_signs (c : Int) (x : ByteArray) (hx : x.size ≤ 1048577) (ha : x.data.toList.all (inRow signsL) = true) (k : Nat) (hk : x.size + 10 < k) : groatref04_signs.f k c x = some (nums8 (x.data.toList.map (signB c))) := by
 unfold groatref04_signs.f
 rw [signs_loop c x hx ha x.size k 0 [] (by decide) (by omega) (by omega) (by simp; omega)]
 rfl
theorem turn_map {fr tt : List UInt8} : ∀ {l : List UInt8}, l.all (inRow fr) = true → turnL fr tt l = some (l.map fun b => tt.getD (Lib.indexByte fr b).toNat 0)
 | [], _ => rfl
 | c :: l, h => by
  simp only [List.all_cons, Bool.and_eq_true] at h
  have hc : Lib.indexByte fr c ≠ -1 := by simpa [inRow] using h.1
  simp only [turnL]
  rw [if_neg hc, turn_map h.2]
  rfl
theorem letters_map {c : Int} {l : List UInt8} (hc : 1 ≤ c ∧ c ≤ 3) (h : l.all (inRow signsL) = true) : (lettersC c).put l = l.map (signB c) := by
 have e1 : ∀ c' : Int, c' ≠ 3 → (turnL signsL signsL l).getD [] = l.map (signB c') := by
  intro c' hc'
  rw [turn_map h]
  simp only [Option.getD_some]
  refine List.map_congr_left fun b hb => ?_
  obtain ⟨i, hi, _, hg⟩ := index_get (fr := signsL) (c := b) (by simpa [inRow] using List.all_eq_true.1 h b hb)
  rw [hi, Int.toNat_natCast, hg]
  unfold signB
  rw [if_neg hc']
 unfold lettersC
 by_cases h1 : c = 1
 ·rw [if_pos h1]
  exact e1 c (by omega)
 ·rw [if_neg h1]
  by_cases h2 : c = 2
  ·rw [if_pos h2]
   exact e1 c (by omega)
  ·rw [if_neg h2]
   have h3 : c = 3 := by omega
   show (turnL signsL ebcB.data.toList l).getD [] = _
   rw [turn_map h]
   simp only [Option.getD_some]
   refine List.map_congr_left fun b hb => ?_
   unfold signB
   rw [if_pos h3]
set_option maxRecDepth 100000 in
theorem ten_signs {b : UInt8} (h : inRow tenL b = true) : inRow signsL b = true ∧ eb10.data.toList.getD (Lib.indexByte tenL b).toNat 0 = ebcB.data.toList.getD (Lib.indexByte signsL b).toNat 0 := by
 have key : ∀ i : Fin 256, inRow tenL (UInt8.ofNat i.1) = true → inRow signsL (UInt8.ofNat i.1) = true ∧ eb10.data.toList.getD (Lib.indexByte tenL (UInt8.ofNat i.1)).toNat 0 = ebcB.data.toList.getD (Lib.indexByte signsL (UInt8.ofNat i.1)).toNat 0 := by decide
 have h2 := key ⟨b.toNat, b.toNat_lt⟩ (by rw [UInt8.ofNat_toNat]; exact h)
 simp only [UInt8.ofNat_toNat] at h2
 exact h2
theorem ten_all {l : List UInt8} (h : l.all (inRow tenL) = true) : l.all (inRow signsL) = true := List.all_eq_true.2 fun b hb => (ten_signs (List.all_eq_true.1 h b hb)).1
theorem digits_map {c : Int} {l : List UInt8} (hc : c = 1 ∨ c = 3) (h : l.all (inRow tenL) = true) : (digitsC c).put l = l.map (signB c) := by
 rcases hc with rfl | rfl
 ·show (turnL tenL tenL l).getD [] = _
  rw [turn_map h]
  simp only [Option.getD_some]
  refine List.map_congr_left fun b hb => ?_
  obtain ⟨i, hi, _, hg⟩ := index_get (fr := tenL) (c := b) (by simpa [inRow] using List.all_eq_true.1 h b hb)
  rw [hi, Int.toNat_natCast, hg]
  rfl
 ·show (turnL tenL eb10.data.toList l).getD [] = _
  rw [turn_map h]
  simp only [Option.getD_some]
  refine List.map_congr_left fun b hb => ?_
  exact (ten_signs (List.all_eq_true.1 h b hb)).2
theorem ref_dig (c : Int) (hc : 1 ≤ c ∧ c ≤ 3) (x : ByteArray) (hx : x.size ≤ 1048577) (ha : x.data.toList.all (inRow tenL) = true) (k : Nat) (hk : x.size + 10 < k) : groatref04_digits.f k c x = some (nums8 ((digitsC c).put x.data.toList)) := by
 unfold groatref04_digits.f
 by_cases h2 : c = 2
 ·subst h2
  rw [if_pos rfl, ref_packed x hx (fun b hb => ten_hex (List.all_eq_true.1 ha b hb)) k hk]
  rfl
 ·rw [if_neg h2, ref_signs c x hx (ten_all ha) k hk, digits_map (by omega) ha]
  rfl
theorem ten_num : ∀ i : Nat, i < 10 → ((tenL.getD i 0).toNat : Int) = 48 + i := by
 have : ∀ i : Fin 10, ((tenL.getD i.1 0).toNat : Int) = 48 + (i.1 : Int) := by decide
 exact fun i hi => this ⟨i, hi⟩
theorem ref_two (n : Nat) (h : n < 100) : groatref04_two.f (n : Int) = some ⟨(told n).toArray⟩ := by
 unfold groatref04_two.f
 have e1 : Int.tdiv (n : Int) 10 = ((n / 10 : Nat) : Int) := by rw [Int.tdiv_eq_ediv_of_nonneg (by omega)]; omega
 have e2 : Int.tmod (n : Int) 10 = ((n % 10 : Nat) : Int) := by rw [Int.tmod_eq_emod_of_nonneg (by omega)]; omega
 have t1 := ten_num (n / 10) (by omega)
 have t2 := ten_num (n % 10) (by omega)
 rw [e1, e2, IntWalk.wrap64_in ((n / 10 : Nat) : Int) ⟨by omega, by omega⟩, IntWalk.wrap64_in (48 + ((n / 10 : Nat) : Int)) ⟨by omega, by omega⟩, IntWalk.wrap64_in (48 + ((n % 10 : Nat) : Int)) ⟨by omega, by omega⟩,
  show (48 + ((n / 10 : Nat) : Int)) % 256 = ((tenL.getD (n / 10) 0).toNat : Int) by omega, show (48 + ((n % 10 : Nat) : Int)) % 256 = ((tenL.getD (n % 10) 0).toNat : Int) by omega]
 have := str_nums (told n)
 unfold told nums8 at this
 simp only [List.map_cons, List.map_nil] at this
 rw [this]
 rfl
def highC (b : UInt8) : UInt8 := highB.data.toList.getD (Lib.indexByte hexL b).toNat 0
set_option maxRecDepth 100000 in
theorem high_byte {b : UInt8} (h : inRow hexL b = true) : (if (b.toNat : Int) ≥ 97 then (((b.toNat : Int) - 97) + 65) % 256 else (b.toNat : Int)) = ((highC b).toNat : Int) := by
 have key : ∀ i : Fin 256, inRow hexL (UInt8.ofNat i.1) = true → (if (i.1 : Int) ≥ 97 then (((i.1 : Int) - 97) + 65) % 256 else (i.1 : Int)) = ((highC (UInt8.ofNat i.1)).toNat : Int) := by decide
 have h2 := key ⟨b.toNat, b.toNat_lt⟩ (by rw [UInt8.ofNat_toNat]; exact h)
 simp only [UInt8.ofNat_toNat] at h2
 exact h2
theorem bytes_loop (x : ByteArray) (hx : x.size ≤ 1048577) (ha : x.data.toList.all (inRow hexL) = true) : ∀ (d k : Nat) (i : Int) (acc : List Int), 0 ≤ i → (x.size : Int) - i = d → d < k → acc.length + d ≤ 2097154 →
  groatref04_bytes.l0 k x acc i = some (acc ++ nums8 ((x.data.toList.drop i.toNat).map highC))
 | 0, k, i, acc, h0, hd, hk, _ => by
  obtain ⟨k, rfl⟩ : ∃ m, k = m + 1 := ⟨k - 1, by omega⟩
  rw [groatref04_bytes.l0, if_neg (by omega), List.drop_of_length_le (by rw [size_list]; omega)]
  simp [nums8]
 | d + 1, k, i, acc, h0, hd, hk, hs => by
  obtain ⟨k, rfl⟩ : ∃ m, k = m + 1 := ⟨k - 1, by omega⟩
  have hlt : i < (x.size : Int) := by omega
  obtain ⟨b, hc, hb⟩ := drop_bt x i h0 hlt
  have hin := high_byte (List.all_eq_true.1 ha b (List.mem_of_mem_drop (i := i.toNat) (by rw [hc]; simp)))
  rw [groatref04_bytes.l0, if_pos hlt, if_pos h0, hb]
  by_cases h97 : (b.toNat : Int) ≥ 97
  ·rw [if_pos h97] at hin
   rw [if_pos h97, if_pos (by omega), hin, IntWalk.wrap64_in (i + 1) ⟨by omega, by omega⟩, bytes_loop x hx ha d k (i + 1) _ (by omega) (by omega) (by omega) (by simp; omega), hc]
   simp [nums8]
  ·rw [if_neg h97] at hin
   rw [if_neg h97, if_pos (by omega), hin, IntWalk.wrap64_in (i + 1) ⟨by omega, by omega⟩, bytes_loop x hx ha d k (i + 1) _ (by omega) (by omega) (by omega) (by simp; omega), hc]
   simp [nums8]
theorem ref_bytes {p n c : Int} (x : ByteArray) (hx : x.size ≤ 1048576) (h : checkR p n c x.data.toList = 0) (k : Nat) (hk : 1048600 < k) : groatref04_bytes.f k p n c x = some (nums8 (putBytes p c x.data.toList)) := by
 have hm := (check_zero h).1
 have hc : 1 ≤ c ∧ c ≤ 3 := by simp [mayB] at hm; omega
 obtain ⟨hn, ⟨rfl, a, r, hl, ha, hr, hlen⟩ | ⟨rfl, h0, h1, hr⟩ | ⟨rfl, hr, hlen⟩ | ⟨rfl, hr, hlen⟩ | ⟨rfl, hr, hlen⟩⟩ := fit_of h
 ·have hz := size_cons hl
  have e1 : (x.extract 0 1).data.toList = [a] := by rw [cut_head, hl]; rfl
  have e2 : (x.extract 1 x.size).data.toList = r := tail_data x a r hl
  have s1 : (x.extract 0 1).size = 1 := by rw [← size_list, e1]; rfl
  have s2 : (x.extract 1 x.size).size = r.length := by rw [← size_list, e2]
  unfold groatref04_bytes.f
  rw [if_neg (by decide), if_neg (by decide), if_pos rfl, if_pos (by decide), if_pos (by omega), ref_signs c _ (by omega) (by rw [e1]; exact ha) k (by omega), ref_dig c hc _ (by omega) (by rw [e2]; exact hr) k (by omega), e1, e2]
  simp only [Option.bind_some]
  have hp : putBytes 5 c x.data.toList = [a].map (signB c) ++ (digitsC c).put r := by
   rw [hl, ← letters_map hc ha]
   rfl
  have l2 := put_length (digitsC c) r
  rw [if_pos (by simp only [nums8, List.length_map, List.length_cons, List.length_nil]; omega), hp]
  simp [nums8]
 ·have t1 := ref_two x.data.toList.length (by omega)
  rw [size_list] at t1
  have ht := told_ok x.data.toList.length (by omega)
  unfold groatref04_bytes.f
  rw [if_neg (by decide), if_pos rfl, t1]
  simp only [Option.bind_some]
  rw [← size_list] at *
  rw [ref_dig c hc ⟨(told x.data.toList.length).toArray⟩ (by rw [size_arr]; exact Nat.le_trans (Nat.le_of_eq (told_length _)) (by decide)) (by simpa using ht) k (by rw [size_arr, told_length]; omega), ref_dig c hc x (by rw [← size_list]; omega) hr k (by rw [← size_list]; omega)]
  simp only [Option.bind_some]
  have l1 := put_length (digitsC c) (told x.data.toList.length)
  have l2 := put_length (digitsC c) x.data.toList
  rw [told_length] at l1
  rw [if_pos (by simp only [nums8, List.length_map]; omega)]
  have hp : putBytes 2 c x.data.toList = (digitsC c).put (told x.data.toList.length) ++ (digitsC c).put x.data.toList := rfl
  rw [hp]
  simp [nums8]
 ·unfold groatref04_bytes.f
  rw [if_pos rfl, ref_dig c hc x (by omega) hr k (by omega)]
  rfl
 ·unfold groatref04_bytes.f
  rw [if_neg (by decide), if_neg (by decide), if_neg (by decide), if_pos rfl, ref_signs c x (by omega) hr k (by omega), ← letters_map hc hr]
  rfl
 ·unfold groatref04_bytes.f
  rw [if_neg (by decide), if_neg (by decide), if_neg (by decide), if_neg (by decide)]
  by_cases h1 : c = 1
  ·subst h1
   rw [if_pos rfl, bytes_loop x (by omega) hr x.size k 0 [] (by decide) (by omega) (by omega) (by simp; omega)]
   have : (rawC 1).put x.data.toList = x.data.toList.map highC := by
    show (turnL hexL highB.data.toList x.data.toList).getD [] = _
    rw [turn_map hr]
    rfl
   have hp : putBytes 4 1 x.data.toList = (rawC 1).put x.data.toList := rfl
   rw [hp, this]
   rfl
  ·rw [if_neg h1, ref_packed x (by omega) (fun b hb => show Lib.indexByte hexL b ≠ -1 from of_decide_eq_true (List.all_eq_true.1 hr b hb)) k (by omega)]
   have hp : putBytes 4 c x.data.toList = (rawC c).put x.data.toList := rfl
   have hq : (rawC c).put x.data.toList = packL x.data.toList := by
    unfold rawC
    rw [if_neg h1]
    rfl
   rw [hp, hq]
   rfl
theorem ref_put (p n c : Int) (x : ByteArray) (l0 : List Int) (hx : x.size ≤ 1048576) (hl : l0.length ≤ 1048576) (k : Nat) (hk : 1048600 < k) : groatref04_Put.f k l0 p n c x = some (putR l0 p n c x) := by
 unfold groatref04_Put.f putR
 rw [ref_check p n c x (by omega) k (by omega)]
 simp only [Option.bind_some, List.nil_append, List.length_nil]
 by_cases h : checkR p n c x.data.toList = 0
 ·have hs := bytes_small (fit_of h)
  rw [if_pos h, if_pos h, if_pos (by omega), ref_bytes x hx h k hk]
  simp only [Option.bind_some]
  rw [if_pos (by simp only [nums8, List.length_map]; omega)]
 ·rw [if_neg h, if_neg h]
theorem ref_kind_loop (n : Int) : ∀ (d k i : Nat), i + d = 16 → d < k → groatref05_Kind.l0 k n typesL i = some ((typesL.drop i).contains n)
 | 0, k, i, hd, hk => by
  obtain ⟨k, rfl⟩ : ∃ m, k = m + 1 := ⟨k - 1, by omega⟩
  obtain rfl : i = 16 := by omega
  rw [groatref05_Kind.l0, if_neg (by decide)]
  rfl
 | d + 1, k, i, hd, hk => by
  obtain ⟨k, rfl⟩ : ∃ m, k = m + 1 := ⟨k - 1, by omega⟩
  have hl : typesL.length = 16 := rfl
  have hi : i < typesL.length := by omega
  rw [groatref05_Kind.l0, if_pos (by omega), if_pos (by omega), List.drop_eq_getElem_cons hi, List.contains_cons]
  have hr : rd typesL (i : Int) = typesL[i] := by simp [rd, List.getD_eq_getElem?_getD, hi]
  rw [hr]
  by_cases h : typesL[i] = n
  ·rw [if_pos h, h]; simp
  ·rw [if_neg h, show wrap64 ((i : Int) + 1) = ((i + 1 : Nat) : Int) from by rw [IntWalk.wrap64_in _ ⟨by omega, by omega⟩]; rfl, ref_kind_loop n d k (i + 1) (by omega) (by omega)]
   have : (n == typesL[i]) = false := by simpa using fun e => h e.symm
   rw [this, Bool.false_or]
theorem ref_kind (n : Int) (k : Nat) (hk : 20 < k) : groatref05_Kind.f k n = some (typesL.contains n) := ref_kind_loop n 16 k 0 rfl (by omega)
theorem ref_form1 (no : Int) (k : Nat) (hk : 20 < k) : groatref05_Form.f k 1 no = some (match formF no 0 with | none => (0, 0, 0, 52) | some x => (x.1, x.2, 1, 0)) := by
 obtain ⟨k, rfl⟩ : ∃ m, k = m + 1 := ⟨k - 1, by omega⟩
 unfold groatref05_Form.f
 rw [if_neg (by decide), groatref05_Form.j0, if_neg (by decide), ref_there no k (by omega), Option.bind_some]
 cases e : formF no 0 with
 | none => rfl
 | some x =>
  have := form_kind no 0 x e
  dsimp only
  rw [if_neg this, if_neg (by decide)]
theorem checkR_may {p n c : Int} (h : mayB p n c = true) (l : List UInt8) : checkR p n c l = 0 ∨ checkR p n c l = 41 := by
 unfold checkR
 rw [h]
 simp only [if_true]
 split <;> simp
theorem form_may {no : Int} {p n : Int} (h : formF no 0 = some (p, n)) : mayB p n 1 = true := by
 unfold formF at h
 split at h
 ·rename_i h17
  have hall : ∀ i (hi : i < fieldsL.length), mayB fieldsL[i].2.1 fieldsL[i].2.2 1 = true := by decide
  have := Option.some.inj h
  have h2 := hall (fieldAt no) h17
  simp only [Prod.mk.injEq] at this
  obtain ⟨rfl, h4⟩ := this
  rw [← h4]
  split
  ·simpa using h2
  ·simpa using h2
 ·cases h
theorem ref_check05_loop (l : List S28) (hl : l.length ≤ 24) (hS : ∀ x ∈ l, x.f1.size ≤ 1048577) (ty : Int) : ∀ (d k i : Nat) (last : Int), i + d = l.length → 2 * d + 1048700 < k →
  groatref05_Check.l0 k last i ty l = some (erZ (errF last ((l.map fldS).drop i)))
 | 0, k, i, last, hd, hk => by
  obtain ⟨k, rfl⟩ : ∃ m, k = m + 1 := ⟨k - 1, by omega⟩
  rw [groatref05_Check.l0, if_neg (by omega), List.drop_eq_nil_of_le (by simp; omega)]
  rfl
 | d + 1, k, i, last, hd, hk => by
  obtain ⟨k, rfl⟩ : ∃ m, k = m + 2 := ⟨k - 2, by omega⟩
  have hi : i < l.length := by omega
  have hi2 : i < (l.map fldS).length := by simpa using hi
  rw [groatref05_Check.l0, if_pos (by omega), if_pos (by omega), rd_at l i hi, ref_form1 _ _ (by omega), Option.bind_some, List.drop_eq_getElem_cons hi2]
  have hx : (l.map fldS)[i] = (l[i].f0, l[i].f1) := by simp [fldS]
  rw [hx]
  have hsz := hS l[i] (List.getElem_mem hi)
  cases e : formF l[i].f0 0 with
  | none =>
   dsimp only
   rw [if_neg (by decide), groatref05_Check.j1, if_pos rfl]
   unfold errF
   rw [show formF (l[i].f0, l[i].f1).1 0 = none from e]
   rfl
  | some x =>
   obtain ⟨p, n⟩ := x
   dsimp only
   rw [if_pos rfl, groatref05_Check.j1]
   unfold errF
   rw [show formF (l[i].f0, l[i].f1).1 0 = some (p, n) from e]
   dsimp only
   by_cases h1 : l[i].f0 ≤ last
   ·rw [if_pos (by simpa using h1), if_pos h1]
    rfl
   ·rw [if_neg (by simpa using h1), if_neg h1, if_pos (by omega), if_pos (by omega), rd_at l i hi, ref_check _ _ _ _ hsz _ (by omega), Option.bind_some]
    rcases checkR_may (form_may e) l[i].f1.data.toList with h2 | h2
    ·rw [if_pos h2, if_pos h2, show wrap64 ((i : Int) + 1) = ((i + 1 : Nat) : Int) from by rw [IntWalk.wrap64_in _ ⟨by omega, by omega⟩]; rfl]
     exact ref_check05_loop l hl hS ty d k (i + 1) l[i].f0 (by omega) (by omega)
    ·rw [h2, if_neg (by decide), if_neg (by decide)]
     rfl
/-- What Check answers. -/
def chkR (ty : Int) (F : Flds) : Int := if typesL.contains ty = false then 51 else if 24 < F.length then 5 else erZ (errF 0 F)
theorem ref_check05 (ty : Int) (l : List S28) (hS : ∀ x ∈ l, x.f1.size ≤ 1048577) (k : Nat) (hk : 1048800 < k) : groatref05_Check.f k ty l = some (chkR ty (l.map fldS)) := by
 unfold groatref05_Check.f chkR
 rw [ref_kind ty k (by omega), Option.bind_some]
 cases typesL.contains ty with
 | false => rfl
 | true =>
  rw [if_pos rfl, if_neg (show ¬ true = false by simp), List.length_map]
  by_cases h : l.length ≤ 24
  ·rw [if_neg (show ¬ (l.length : Int) > 24 by omega), if_neg (show ¬ 24 < l.length by omega)]
   exact ref_check05_loop l h hS ty l.length k 0 0 (by omega) (by omega)
  ·rw [if_pos (show (l.length : Int) > 24 by omega), if_pos (show 24 < l.length by omega)]

theorem refput_any (k n c : Int) (s : ByteArray) (A0 : Option Addr) (c0 : Nat) (l0 : List Int) (w : World) (hs : s.size ≤ 1048576) (hl0 : l0.length ≤ 1048576) (hr0 : Kd.C (Kd.int .u8) w A0 l0.length l0) (hc0 : l0.length ≤ c0) :
  Calls Tryz.prog 37 #[.slice A0 l0.length c0, .agg #[.int .i64 k, .int .i64 n, .int .i64 c], .string s] w fun e w' => ∃ v0_ : Value, e = .returned (.tuple #[v0_, .int .i64 (putR l0 k n c s).2]) ∧ Kd.R (Kd.int .u8) 5 w' w.heap.size (fun _ => True) v0_ (putR l0 k n c s).1 ∧ Below w.heap.size w w' :=
 groatref04_Put.calls 2000000 A0 c0 l0 k n c s _ _ w hr0 hc0 (ref_put k n c s l0 hs hl0 2000000 (by decide))
theorem chk_enc (ty : Int) (F : Flds) : chkR ty F = erZ (checkM ty F) := by
 unfold chkR checkM
 split
 ·rfl
 ·split <;> rfl
theorem refcheck_any {w : World} {v : Value} {F : Flds} (h : FsAt w v F) (hS : ∀ x ∈ F, x.2.size ≤ 1048576) (ty : Int) :
  Calls Tryz.prog 23 #[.agg #[.int .i64 ty, v]] w fun e w' => e = .returned (.int .i64 (erZ (checkM ty F))) ∧ Below w.heap.size w w' := by
 obtain ⟨p, c, rfl⟩ := h.shape
 obtain ⟨a1, a2, a3⟩ := C_of_fs h
 rw [a1] at a2 ⊢
 have hr := ref_check05 ty (F.map unS) (fun x hx => by obtain ⟨y, hy, rfl⟩ := List.mem_map.1 hx; exact Nat.le_trans (hS y hy) (by decide)) 1048900 (by decide)
 rw [fld_un, chk_enc] at hr
 exact groatref05_Check.calls 1048900 ty p c (F.map unS) _ w a3 a2 hr
theorem refnum_any {w : World} (d n : Int) : Calls Tryz.prog 38 #[.int .i64 d, .int .i64 n] w fun e w' => e = .returned (.agg #[.int .i64 1, .int .i64 n, .int .i64 d]) ∧ Below w.heap.size w w' :=
 groatref05_number.calls d n 1 n d w rfl
theorem ref_head {d ty : Int} (hd : 1 ≤ d ∧ d ≤ 3) (h : typesL.contains ty = true) : groatref05_head.f d ty = some ⟨(UInt8.ofNat (dia d).2.1.toNat :: Lib.itoa ty).toArray⟩ := by
 have hm : ty ∈ typesL := by simpa using h
 have key : ∀ dd ∈ ([1, 2, 3] : List Int), ∀ t ∈ typesL, groatref05_head.f dd t = some ⟨(UInt8.ofNat (dia dd).2.1.toNat :: Lib.itoa t).toArray⟩ := by decide +kernel
 exact key d (by simp; omega) ty hm
theorem refhead_any {w : World} {d ty : Int} (hd : 1 ≤ d ∧ d ≤ 3) (h : typesL.contains ty = true) : Calls Tryz.prog 39 #[.int .i64 d, .int .i64 ty] w fun e w' => e = .returned (.string ⟨(UInt8.ofNat (dia d).2.1.toNat :: Lib.itoa ty).toArray⟩) ∧ Below w.heap.size w w' :=
 groatref05_head.calls d ty _ w (ref_head hd h)
end Go.Proofs.YtommklkihjmgcaaGreatDoor.msgr
namespace Go.Proofs.YtommklkihjmgcaaGreatDoor.msgr
open Go.RowKit Go.Proofs.YtommklkihjmgcaaGreatDoor.fieldp Go.Proofs.YtommklkihjmgcaaGreatDoor.fieldw Go.Proofs.YtommklkihjmgcaaGreatDoor.fieldl Go.Proofs.YtommklkihjmgcaaGreatDoor.msgp Go.Proofs.YtommklkihjmgcaaGreatDoor.msgw
def byteM (m : Nat × Nat) (j : Nat) : Nat := if j < 8 then m.1 / 256 ^ (7 - j) % 256 else m.2 / 256 ^ (15 - j) % 256
def bytesM (m : Nat × Nat) : List UInt8 := (List.range 16).map fun j => UInt8.ofNat (byteM m j)
theorem bytesM_len (m : Nat × Nat) : (bytesM m).length = 16 := by simp [bytesM]
theorem byteM_lt (m : Nat × Nat) (j : Nat) : byteM m j < 256 := by
 unfold byteM
 split <;> exact Nat.mod_lt _ (by decide)
theorem bytesM_at (m : Nat × Nat) (j : Nat) (h : j < 16) : (bytesM m)[j]? = some (UInt8.ofNat (byteM m j)) := by
 simp [bytesM, h]
theorem ofNat_byte (m : Nat × Nat) (j : Nat) : (UInt8.ofNat (byteM m j)).toNat = byteM m j := UInt8.toNat_ofNat_of_lt' (byteM_lt m j)
theorem bytes_none : bytesM (0, 0) = List.replicate 16 0 := by decide +kernel
theorem div_or (a b p : Nat) : (a ||| b) / 256 ^ p % 256 = (a / 256 ^ p % 256) ||| (b / 256 ^ p % 256) := by
 apply Nat.eq_of_testBit_eq
 intro i
 rw [show (256 : Nat) ^ p = 2 ^ (8 * p) by rw [Nat.pow_mul], show (256 : Nat) = 2 ^ 8 from rfl]
 simp only [Nat.testBit_or, Nat.testBit_mod_two_pow, Nat.testBit_div_two_pow]
 cases decide (i < 8) <;> simp
theorem div_pow (e p : Nat) : 2 ^ e / 256 ^ p % 256 = if e / 8 = p then 2 ^ (e % 8) else 0 := by
 apply Nat.eq_of_testBit_eq
 intro i
 rw [show (256 : Nat) ^ p = 2 ^ (8 * p) by rw [Nat.pow_mul], show (256 : Nat) = 2 ^ 8 from rfl]
 simp only [Nat.testBit_mod_two_pow, Nat.testBit_div_two_pow, Nat.testBit_two_pow]
 by_cases h : e / 8 = p
 ·rw [if_pos h, Nat.testBit_two_pow, Bool.eq_iff_iff]
  simp only [Bool.and_eq_true, decide_eq_true_eq]
  omega
 ·rw [if_neg h, Nat.zero_testBit, Bool.eq_false_iff]
  simp only [ne_eq, Bool.and_eq_true, decide_eq_true_eq]
  omega
/-- A bit more. -/
theorem byte_add (m : Nat × Nat) {no : Int} (hn : 2 ≤ no ∧ no ≤ 128) (j : Nat) (hj : j < 16) : byteM (addBit m no) j = if j = ((no - 1) / 8).toNat then byteM m j ||| 2 ^ (7 - ((no - 1) % 8).toNat) else byteM m j := by
 unfold addBit byteM
 by_cases h : no ≤ 64
 ·rw [if_pos h]
  by_cases hj8 : j < 8
  ·rw [if_pos hj8, if_pos hj8]
   simp only
   rw [div_or, div_pow]
   by_cases e : j = ((no - 1) / 8).toNat
   ·rw [if_pos e, if_pos (by omega), show (64 - no).toNat % 8 = 7 - ((no - 1) % 8).toNat by omega]
   ·rw [if_neg e, if_neg (by omega), Nat.or_zero]
  ·rw [if_neg hj8, if_neg hj8, if_neg (by omega)]
 ·rw [if_neg h]
  by_cases hj8 : j < 8
  ·rw [if_pos hj8, if_pos hj8, if_neg (by omega)]
  ·rw [if_neg hj8, if_neg hj8]
   simp only
   rw [div_or, div_pow]
   by_cases e : j = ((no - 1) / 8).toNat
   ·rw [if_pos e, if_pos (by omega), show (128 - no).toNat % 8 = 7 - ((no - 1) % 8).toNat by omega]
   ·rw [if_neg e, if_neg (by omega), Nat.or_zero]
theorem bytes_add (m : Nat × Nat) {no : Int} (hn : 2 ≤ no ∧ no ≤ 128) : bytesM (addBit m no) = (bytesM m).set ((no - 1) / 8).toNat (UInt8.ofNat (byteM m ((no - 1) / 8).toNat ||| 2 ^ (7 - ((no - 1) % 8).toNat))) := by
 apply List.ext_getElem?
 intro j
 by_cases hj : j < 16
 ·rw [bytesM_at _ j hj, List.getElem?_set, byte_add m hn j hj]
  by_cases e : ((no - 1) / 8).toNat = j
  ·rw [if_pos e, if_pos e.symm, if_pos (by rw [bytesM_len, e]; exact hj), e]
  ·rw [if_neg e, if_neg (fun h => e h.symm), bytesM_at m j hj]
 ·rw [List.getElem?_eq_none (by rw [bytesM_len]; omega), List.getElem?_eq_none (by rw [List.length_set, bytesM_len]; omega)]
theorem top_byte (m : Nat × Nat) (h : m.2 ≠ 0) (j : Nat) (hj : j < 16) : byteM (topBit m, m.2) j = if j = 0 then byteM m j ||| 128 else byteM m j := by
 unfold topBit byteM
 rw [if_neg h]
 by_cases hj8 : j < 8
 ·rw [if_pos hj8, if_pos hj8]
  simp only
  rw [div_or, show (9223372036854775808 : Nat) = 2 ^ 63 from rfl, div_pow]
  by_cases e : j = 0
  ·rw [if_pos e, if_pos (by omega)]
  ·rw [if_neg e, if_neg (by omega), Nat.or_zero]
 ·rw [if_neg hj8, if_neg hj8, if_neg (by omega)]
theorem bytes_top (m : Nat × Nat) (h : m.2 ≠ 0) : bytesM (topBit m, m.2) = (bytesM m).set 0 (UInt8.ofNat (byteM m 0 ||| 128)) := by
 apply List.ext_getElem?
 intro j
 by_cases hj : j < 16
 ·rw [bytesM_at _ j hj, List.getElem?_set, top_byte m h j hj]
  by_cases e : 0 = j
  ·subst e
   rw [if_pos rfl, if_pos rfl, if_pos (by rw [bytesM_len]; decide)]
  ·rw [if_neg e, if_neg (fun h => e h.symm), bytesM_at m j hj]
 ·rw [List.getElem?_eq_none (by rw [bytesM_len]; omega), List.getElem?_eq_none (by rw [List.length_set, bytesM_len]; omega)]
theorem top_none (m : Nat × Nat) (h : m.2 = 0) : (topBit m, m.2) = m := by
 unfold topBit
 rw [if_pos h]
/-- How a byte of the map is written. -/
def byteE (d : Int) (c : UInt8) : List UInt8 := if d = 1 then [highC (hexd (c.toNat / 16)), highC (hexd (c.toNat % 16))] else [c]
def mapE (d : Int) (l : List UInt8) : List UInt8 := l.flatMap (byteE d)
theorem mapE_snoc (d : Int) (l : List UInt8) (c : UInt8) : mapE d (l ++ [c]) = mapE d l ++ byteE d c := by simp [mapE]
theorem pack_bytes {n : Nat} (hn : n < 18446744073709551616) : packE (hex16 n) = (List.range 8).map fun j => UInt8.ofNat (n / 256 ^ (7 - j) % 256) := by
 apply List.ext_getElem?
 intro j
 by_cases hj : j < 8
 ·have h1 := packE_byte 8 (hex16 n) (hex16_len n) (hex16_all n) j hj
  rw [numH_hex16 hn] at h1
  obtain ⟨x, h2, h3⟩ := Option.map_eq_some_iff.1 h1
  rw [h2, List.getElem?_map, List.getElem?_range hj]
  simp only [Option.map_some, Option.some.injEq]
  exact byte_ofNat h3
 ·rw [List.getElem?_eq_none (by rw [packE_length 8 _ (by rw [hex16_len])]; omega), List.getElem?_eq_none (by simp; omega)]
theorem high_hex {x : UInt8} (h : inRow hexL x = true) : turnL lowB.data.toList highB.data.toList [x] = some [highC x] := by
 have key : ∀ i : Fin 256, inRow hexL (UInt8.ofNat i.1) = true → turnL lowB.data.toList highB.data.toList [UInt8.ofNat i.1] = some [highC (UInt8.ofNat i.1)] := by decide +kernel
 have := key ⟨x.toNat, x.toNat_lt⟩ (by rw [UInt8.ofNat_toNat]; exact h)
 rwa [UInt8.ofNat_toNat] at this
theorem turn_high : ∀ {l : List UInt8}, l.all (inRow hexL) = true → turnL lowB.data.toList highB.data.toList l = some (l.map highC)
 | [], _ => rfl
 | x :: r, h => by
  simp only [List.all_cons, Bool.and_eq_true] at h
  rw [show x :: r = [x] ++ r from rfl, turnL_append, high_hex h.1, turn_high h.2]
  rfl
theorem put_map {d : Int} (hd : 1 ≤ d ∧ d ≤ 3) {n : Nat} (hn : n < 18446744073709551616) : putBytes 4 d (hex16 n) = mapE d ((List.range 8).map fun j => UInt8.ofNat (n / 256 ^ (7 - j) % 256)) := by
 rw [← pack_bytes hn]
 by_cases h1 : d = 1
 ·subst h1
  show ((rawC 1).put (hex16 n)) = _
  have e1 : (rawC 1).put (hex16 n) = (hex16 n).map highC := by
   show (turnL lowB.data.toList highB.data.toList (hex16 n)).getD [] = _
   rw [turn_high (hex16_all n)]
   rfl
  have hh : ∀ c ∈ hex16 n, isHex c := fun c hc => by
   have := List.all_eq_true.1 (hex16_all n) c hc
   simpa [isHex, inRow] using this
  have e2 := unpack_pack 8 (hex16 n) (hex16_len n) hh
  rw [e1]
  obtain ⟨y, ey⟩ : ∃ y, packE (hex16 n) = y := ⟨_, rfl⟩
  rw [ey] at e2 ⊢
  rw [← e2]
  unfold unpackL mapE
  rw [List.map_flatMap]
  rfl
 ·have e1 : putBytes 4 d (hex16 n) = packE (hex16 n) := by
   show ((rawC d).put (hex16 n)) = _
   unfold rawC
   rw [if_neg h1]
   show packL _ = _
   unfold packL evened
   rw [if_neg (by rw [hex16_len]; decide)]
  rw [e1]
  unfold mapE byteE
  simp only [if_neg h1]
  induction packE (hex16 n) with
  | nil => rfl
  | cons c r ih => rw [List.flatMap_cons, ← ih]; rfl
theorem range16 : List.range 16 = List.range 8 ++ (List.range 8).map (· + 8) := by decide
/-- The whole map. -/
theorem map_ref {d : Int} (hd : 1 ≤ d ∧ d ≤ 3) {m : Nat × Nat} (h1 : m.1 < 2 ^ 63) (h2 : m.2 < 2 ^ 64) : mapE d ((bytesM (topBit m, m.2)).take (if m.2 = 0 then 8 else 16)) = mapB d m := by
 have ht := top_lt h1
 have hb : bytesM (topBit m, m.2) = (List.range 8).map (fun j => UInt8.ofNat (topBit m / 256 ^ (7 - j) % 256)) ++ (List.range 8).map (fun j => UInt8.ofNat (m.2 / 256 ^ (7 - j) % 256)) := by
  unfold bytesM
  rw [range16, List.map_append, List.map_map]
  have e1 : (List.range 8).map (fun j => UInt8.ofNat (byteM (topBit m, m.2) j)) = (List.range 8).map (fun j => UInt8.ofNat (topBit m / 256 ^ (7 - j) % 256)) := List.map_congr_left fun j hj => by
   have := List.mem_range.1 hj
   unfold byteM
   rw [if_pos this]
  have e2 : (List.range 8).map ((fun j => UInt8.ofNat (byteM (topBit m, m.2) j)) ∘ fun x => x + 8) = (List.range 8).map (fun j => UInt8.ofNat (m.2 / 256 ^ (7 - j) % 256)) := List.map_congr_left fun j hj => by
   have := List.mem_range.1 hj
   simp only [Function.comp]
   unfold byteM
   rw [if_neg (by omega), show 15 - (j + 8) = 7 - j by omega]
  rw [e1, e2]
 rw [hb]
 unfold mapB
 by_cases h0 : m.2 = 0
 ·rw [if_pos h0, if_pos h0, List.append_nil, List.take_left' (by simp), put_map hd ht]
 ·rw [if_neg h0, if_neg h0, List.take_of_length_le (by simp), put_map hd ht, put_map hd (by omega)]
  simp [mapE]
end Go.Proofs.YtommklkihjmgcaaGreatDoor.msgr
namespace Go.Proofs.YtommklkihjmgcaaGreatDoor.msgr
open Go.RowKit Go.Proofs.YtommklkihjmgcaaGreatDoorW.PrintWords Go.Proofs.YtommklkihjmgcaaGreatDoor.fieldp Go.Proofs.YtommklkihjmgcaaGreatDoor.fieldw Go.Proofs.YtommklkihjmgcaaGreatDoor.fieldl Go.Proofs.YtommklkihjmgcaaGreatDoor.msgp Go.Proofs.YtommklkihjmgcaaGreatDoor.msgw Go.Proofs.YtommklkihjmgcaaGreatDoor.buf
theorem or_byte (m : Nat × Nat) (j s : Nat) (hs : s ≤ 7) : bits BinOp.or IntKind.u8 ((byteM m j : Nat) : Int) (((2 ^ (7 - s) : Nat) : Int)) = ((byteM m j ||| 2 ^ (7 - s) : Nat) : Int) := by
 have h1 := byteM_lt m j
 have h2 : 2 ^ (7 - s) < 256 := Nat.lt_of_le_of_lt (Nat.pow_le_pow_right (by decide) (by omega : 7 - s ≤ 7)) (by decide)
 have key : ∀ a b : Fin 256, bits BinOp.or IntKind.u8 ((a.1 : Nat) : Int) ((b.1 : Nat) : Int) = ((a.1 ||| b.1 : Nat) : Int) := by decide +kernel
 exact key ⟨_, h1⟩ ⟨_, h2⟩
theorem MsgIn.turn {w w' : World} {g b : Nat} {ty : Int} {v : Value} (h : MsgIn w b ty v) (t : Turn [g] w w') (hne : b ≠ g) : MsgIn w' b ty v := by
 have hk : ∀ j, w'.cell? ⟨b, j, none⟩ = w.cell? ⟨b, j, none⟩ := fun j => World.cell?_of_block (a := ⟨b, j, none⟩) (t.block _ (World.block_lt_of_cell? w ⟨b, 0, none⟩ h.1) (by simpa using hne))
 exact ⟨(hk 0).trans h.1, (hk 1).trans h.2⟩
theorem longM (m : Nat × Nat) {no : Int} (hn : 2 ≤ no ∧ no ≤ 128) : (decide ((addBit m no).2 ≠ 0)) = (decide (m.2 ≠ 0) || decide (64 ≤ no - 1)) := by
 unfold addBit
 by_cases h : no ≤ 64
 ·rw [if_pos h, decide_eq_false (show ¬ 64 ≤ no - 1 by omega), Bool.or_false]
 ·rw [if_neg h, decide_eq_true (show 64 ≤ no - 1 by omega), Bool.or_true]
  apply decide_eq_true
  intro h0
  have h1 := congrArg (fun x => x.testBit (128 - no).toNat) h0
  simp [Nat.testBit_or] at h1
section
variable {w : World} {ops : Array Oper} {o : Oper} {a : Act} {K : Act → World → Prop} {Q : Exit → Act → World → Prop} {E : Prop}
theorem exec_bs2 (x y : Operand) (ho : o.op = .buildSlice 33 2 #[(0, x), (1, y)]) (n k : Int) (hx : a.eval x = .int .u8 n) (hy : a.eval y = .int .u8 k) :
  (execOp a.eval o).run Tryz.prog w = .ok (.value (.slice (some ⟨w.heap.size, 0, none⟩) 2 2)) (w.alloc (.cells #[.int .u8 n, .int .u8 k] 5)) := by
 obtain ⟨ie, h1, h2, h3, h4⟩ := info_parts (P := Tryz.prog) infoU8
 unfold execOp
 simp [ho, Instr.buildSlice, run_underlying Tryz.underlying33, sizeOf, typeInfo, h1, h3, newRow, Instr.fill, hx, hy, Value.cells, show Array.range 2 = #[0, 1] from by decide]
theorem step_bs2 (hgd : o.guard = none) (x y : Operand) (ho : o.op = .buildSlice 33 2 #[(0, x), (1, y)]) (n k : Int) (hx : a.eval x = .int .u8 n) (hy : a.eval y = .int .u8 k) (h : ∀ e w', Below w.heap.size w w' → w'.heap[e]? = some (.cells #[.int .u8 n, .int .u8 k] 5 (0, 0)) → K (a.put o.dst (.slice (some ⟨e, 0, none⟩) 2 2)) w') :
  if Region.wanted o (yielded ops a.tmps) = true then Oper.wp Tryz.prog o a w K Q else E :=
 step_run hgd _ (exec_bs2 x y ho n k hx hy) (h _ _ ((Below.refl _ _).alloc (Nat.le_refl _) _) (heap_alloc_last _ _))
theorem bytes2 {e : Nat} {n k : Int} (h : w.heap[e]? = some (.cells #[.int .u8 n, .int .u8 k] 5 (0, 0))) : Kd.C (Kd.int .u8) w (some ⟨e, 0, none⟩) 2 [n, k] := by
 refine ⟨rfl, by decide, fun _ => ⟨_, rfl, ?_⟩⟩
 have hc := fun i => cells_at h i
 intro j p hj
 match j, hj with
 | 0, hj =>
  have : p = n := by simpa using hj.symm
  subst this
  refine ⟨[.int .u8 p], rfl, rfl, ?_⟩
  intro i u hu
  match i, hu with
  | 0, hu => have : u = .int .u8 p := by simpa using hu.symm
             subst this; exact hc 0
  | i + 1, hu => simp at hu
 | 1, hj =>
  have : p = k := by simpa using hj.symm
  subst this
  refine ⟨[.int .u8 p], rfl, rfl, ?_⟩
  intro i u hu
  match i, hu with
  | 0, hu => have : u = .int .u8 p := by simpa using hu.symm
             subst this; exact hc 1
  | i + 1, hu => simp at hu
 | j + 2, hj => simp at hj
end
theorem hexU (n : Nat) (hn : n < 16) (h : n < (⟨#[48, 49, 50, 51, 52, 53, 54, 55, 56, 57, 65, 66, 67, 68, 69, 70]⟩ : ByteArray).size) : (⟨#[48, 49, 50, 51, 52, 53, 54, 55, 56, 57, 65, 66, 67, 68, 69, 70]⟩ : ByteArray)[n].toNat = (highC (hexd n)).toNat := by
 have key : ∀ i : Fin 16, (⟨#[48, 49, 50, 51, 52, 53, 54, 55, 56, 57, 65, 66, 67, 68, 69, 70]⟩ : ByteArray)[i.1].toNat = (highC (hexd i.1)).toNat := by decide +kernel
 exact key ⟨n, hn⟩
theorem dia_id {d : Int} (hd : 1 ≤ d ∧ d ≤ 3) : (dia d).1 = d ∧ (dia d).2.2 = if d = 3 then 2 else 0 := by
 have : d = 1 ∨ d = 2 ∨ d = 3 := by omega
 rcases this with rfl | rfl | rfl <;> decide
theorem refput_txt {w : World} {lo : Nat} {v : Value} {l : List UInt8} (h : Txt w lo v l) (hlo : lo ≤ w.heap.size) (k n c : Int) (s : ByteArray) (hs : s.size ≤ 1048576) (hl : l.length ≤ 1048576) (hck : checkR k n c s.data.toList = 0) :
  Calls Tryz.prog 37 #[v, .agg #[.int .i64 k, .int .i64 n, .int .i64 c], .string s] w fun e w' => ∃ v', e = .returned (.tuple #[v', .int .i64 0]) ∧ Txt w' lo v' (l ++ putBytes k c s.data.toList) ∧ Below w.heap.size w w' := by
 obtain ⟨A, cc, rfl, h1, h2⟩ := h.reads
 have hn : (nums8 l).length = l.length := by simp [nums8]
 have := refput_any k n c s A cc (nums8 l) w hs (by rw [hn]; exact hl) (by rw [hn]; exact h2) (by rw [hn]; exact h1)
 rw [hn, putR_of _ hck, ← nums8_append] at this
 refine this.mono ?_
 rintro e w' ⟨v', rfl, hv, hb⟩
 exact ⟨v', rfl, Txt.of hv hlo, hb⟩
theorem form_w {w : World} {d no k s O : Int} (hd : 1 ≤ d ∧ d ≤ 3) (hO : (dia d).2.2 = O) (hf : formF no O = some (k, s)) : Calls Tryz.prog 26 #[.int .i64 d, .int .i64 no] w fun e w' => e = .returned (.tuple #[.agg #[.int .i64 k, .int .i64 s, .int .i64 d], .int .i64 0]) ∧ Below w.heap.size w w' := by
 have := refform_any (w := w) d no
 have e : formA d no = (k, s, d, 0) := by
  unfold formA
  rw [if_pos hd, hO, hf, (dia_id hd).1]
 rw [e] at this
 exact this
theorem turn_of {a b c : World} {g : Nat} (t : Turn [g] a b) (h : Below (g + 1) b c) (ha : a.heap.size = g + 1) : Turn [g] a c :=
 ⟨h.os.trans t.os, h.tape.trans t.tape, h.output.trans t.output, Nat.le_trans t.size h.size, fun k hk hn => (h.block k (by omega)).trans (t.block k hk hn)⟩
theorem mapsM_snoc' (F : Flds) (x : Fld) : mapsM (F ++ [x]) = addBit (mapsM F) x.1 := by simp [mapsM]
theorem check_w {w : World} {v : Value} {F : Flds} (h : FsAt w v F) (hS : ∀ x ∈ F, x.2.size ≤ 1048576) (ty : Int) {n : Int} (hn : erZ (checkM ty F) = n) :
  Calls Tryz.prog 23 #[.agg #[.int .i64 ty, v]] w fun e w' => e = .returned (.int .i64 n) ∧ Below w.heap.size w w' :=
 (refcheck_any h hS ty).mono fun e w' h => by rw [hn] at h; exact h
set_option maxHeartbeats 4000000 in
set_option maxRecDepth 100000 in
theorem refenc_bad {w : World} {v : Value} {F : Flds} (h : FsAt w v F) (hS : ∀ x ∈ F, x.2.size ≤ 1048576) (d ty n : Int) (hb : ¬ (1 ≤ d ∧ d ≤ 3) ∧ n = 50 ∨ (1 ≤ d ∧ d ≤ 3) ∧ n ≠ 0 ∧ erZ (checkM ty F) = n) :
  Calls Tryz.prog 21 #[.int .i64 d, .agg #[.int .i64 ty, v]] w fun e w' => e = .returned (.tuple #[.slice none 0 0, .int .i64 n]) ∧ Below w.heap.size w w' := by
 obtain ⟨p, c, rfl⟩ := h.shape
 obtain ⟨w0, e0⟩ : ∃ W, w.alloc (.cells #[.int .i64 ty, .slice p F.length c] 24) = W := ⟨_, rfl⟩
 have b0 : Below w.heap.size w w0 := by rw [← e0]; exact alloc_below _ _
 have k0 : MsgIn w0 w.heap.size ty (.slice p F.length c) := by rw [← e0]; exact msgIn_new w ty _
 have HF := Lib.hid (h.below b0)
 have HB0 := Lib.hid b0
 have K0 := Lib.hid k0
 subst e0
 clear h b0 k0
 rcases hb with ⟨hd, rfl⟩ | ⟨hd, hn, hc⟩
 ·go_enter Tryz.func21, Tryz.ntmps21
  by_cases h1 : d < 1
  ·go_wp2_with fail
   go_ret2
   exact ⟨rfl, HB0.out⟩
  ·have h3 : 3 < d := by omega
   go_wp2_with fail
   go_ret2
   exact ⟨rfl, HB0.out⟩
 ·have g1 : decide (d < 1) = false := by simpa using hd.1
  have g2 : decide (3 < d) = false := by simpa using hd.2
  have g3 : (n == 0) = false := by simpa using hn
  obtain ⟨m0, m1⟩ := K0.out
  have HC := Lib.hid (check_w HF.out hS ty hc)
  clear hd hc
  go_enter Tryz.func21, Tryz.ntmps21
  go_wp2_with fail
  refine HC.out.mono ?_
  rintro e w1 ⟨rfl, b1⟩
  have HB1 := Lib.hid (HB0.out.trans (b1.mono HB0.out.size))
  clear b1 m0 m1
  go_wp2_with fail
  go_ret2
  exact ⟨rfl, HB1.out⟩
set_option maxHeartbeats 8000000 in
set_option maxRecDepth 100000 in
theorem refenc_ok {w : World} {v : Value} {F : Flds} (h : FsAt w v F) (hS : ∀ x ∈ F, x.2.size ≤ 1048576) (d ty : Int) (hd : 1 ≤ d ∧ d ≤ 3) (hck : checkM ty F = none) :
  Calls Tryz.prog 21 #[.int .i64 d, .agg #[.int .i64 ty, v]] w fun e w' => ∃ bv, e = .returned (.tuple #[bv, .int .i64 (encR d ty F).2]) ∧ Txt w' w.heap.size bv (encR d ty F).1 ∧ Below w.heap.size w w' := by
 obtain ⟨p, c, rfl⟩ := h.shape
 obtain ⟨ht, hl24, herr⟩ := checkM_none hck
 have hall := errF_all herr
 obtain ⟨w0, e0⟩ : ∃ W, w.alloc (.cells #[.int .i64 ty, .slice p F.length c] 24) = W := ⟨_, rfl⟩
 have b0 : Below w.heap.size w w0 := by rw [← e0]; exact alloc_below _ _
 have k0 : MsgIn w0 w.heap.size ty (.slice p F.length c) := by rw [← e0]; exact msgIn_new w ty _
 have HF := Lib.hid (h.below b0)
 have HB0 := Lib.hid b0
 have K0 := Lib.hid k0
 have HC := Lib.hid (check_w (h.below b0) hS ty (n := 0) (by rw [hck]; rfl))
 have g1 : decide (d < 1) = false := by simpa using hd.1
 have g2 : decide (3 < d) = false := by simpa using hd.2
 have HA := Lib.hid hall
 have HT := Lib.hid ht
 have HCK := Lib.hid hck
 have HD := Lib.hid hd
 have HS := Lib.hid hS
 subst e0
 obtain ⟨m0, m1⟩ := K0.out
 clear h b0 k0 hck ht herr hall hd hS
 go_enter Tryz.func21, Tryz.ntmps21
 go_wp2_with fail
 refine HC.out.mono ?_
 rintro e w1 ⟨rfl, b1⟩
 have HB1 := Lib.hid (HB0.out.trans (b1.mono HB0.out.size))
 have K1 := Lib.hid (K0.out.below b1)
 have HF1 := Lib.hid (HF.out.below b1)
 obtain ⟨w2, e2⟩ : ∃ W, w1.alloc (.cells #[.int .u8 0, .int .u8 0, .int .u8 0, .int .u8 0, .int .u8 0, .int .u8 0, .int .u8 0, .int .u8 0, .int .u8 0, .int .u8 0, .int .u8 0, .int .u8 0, .int .u8 0, .int .u8 0, .int .u8 0, .int .u8 0] 5) = W := ⟨_, rfl⟩
 obtain ⟨Bb, eBb⟩ : ∃ b, w1.heap.size = b := ⟨_, rfl⟩
 have b2 : Below w1.heap.size w1 w2 := by rw [← e2]; exact alloc_below _ _
 have hrow : RowAt w2 Bb 5 (bytesM (mapsM (F.take 0))) := by
  rw [← eBb, ← e2]
  have hz : bytesM (mapsM (F.take 0)) = List.replicate 16 0 := bytes_none
  unfold RowAt
  rw [hz]
  exact heap_alloc_last _ _
 have HBs : w.heap.size < Bb := by rw [← eBb]; exact World.block_lt_of_cell? w1 ⟨w.heap.size, 0, none⟩ K1.out.1
 have K2 := Lib.hid (K1.out.below b2)
 have HF2 := Lib.hid (HF1.out.below b2)
 have HB2 := Lib.hid (HB1.out.trans (b2.mono HB1.out.size))
 have HR2 := Lib.hid hrow
 have HBB := Lib.hid HBs
 have HSz := Lib.hid (show w2.heap.size = Bb + 1 by rw [← eBb, ← e2]; simp)
 have hmk : ∀ W : World, (Instr.makeSlice 33 (.int .i64 16) (.int .i64 16)).run Tryz.prog W = .ok (.slice (some ⟨W.heap.size, 0, none⟩) 16 16) (W.alloc (.cells #[.int .u8 0, .int .u8 0, .int .u8 0, .int .u8 0, .int .u8 0, .int .u8 0, .int .u8 0, .int .u8 0, .int .u8 0, .int .u8 0, .int .u8 0, .int .u8 0, .int .u8 0, .int .u8 0, .int .u8 0, .int .u8 0] 5)) := fun _ => by kernel_rfl
 have E2 := Lib.hid e2
 have HB12 := Lib.hid b2
 obtain ⟨O, eO⟩ : ∃ o, (dia d).2.2 = o := ⟨_, rfl⟩
 have HO := Lib.hid eO
 have HO3 := Lib.hid (show O = if d = 3 then 2 else 0 by rw [← eO]; exact (dia_id HD.out).2)
 have HEB := Lib.hid eBb
 clear eO b1 b2 hrow HBs m0 m1 K0 HF HB0 HC K1 HB1 e2 eBb HF2
 go_wp2_with fail
 rw [E2.out, HEB.out]
 go_loopw [9, 8] (fun iv lv wr => ∃ i : Nat, i ≤ F.length ∧ iv = .int .i64 i ∧ lv = .bool (decide ((mapsM (F.take i)).2 ≠ 0)) ∧ Turn [Bb] w2 wr ∧ RowAt wr Bb 5 (bytesM (mapsM (F.take i))) ∧ (F.take i).any (badA O) = false) (fun iv _ _ => F.length - (intOf iv).toNat)
 case atStart => exact ⟨0, Nat.zero_le _, rfl, rfl, Turn.refl _ _, HR2.out, rfl⟩
 case round =>
  obtain ⟨i, hi, rfl, rfl, ht, hrow, hbad⟩ := hrel
  have hb1 : Below w1.heap.size w1 wr := HB12.out.trans (ht.below (by rw [HEB.out, HSz.out]; omega) (by rw [HEB.out]; simp))
  obtain ⟨m0, m1⟩ := MsgIn.turn K2.out ht (by have := HBB.out; omega)
  have HFw := Lib.hid (HF1.out.below hb1)
  have HTn := Lib.hid ht
  have HRw := Lib.hid hrow
  have HBad := Lib.hid hbad
  clear ht hrow hbad hb1
  by_cases hlt : i < F.length
  ·have hlt' : (i : Int) < F.length := by omega
   obtain ⟨fb, fo, rfl, q0, q1⟩ := HFw.out.get i hlt
   obtain ⟨⟨fn, fs⟩, ef⟩ : ∃ x, F[i] = x := ⟨_, rfl⟩
   rw [ef] at q0 q1
   have hx := HA.out F[i] (List.getElem_mem hlt)
   rw [ef] at hx
   obtain ⟨_, kk, ss, hff, hfc⟩ := hx
   have hr := formF_pos hff
   simp only at hr
   have hsz2 : fn = 4 → 2 ≤ fs.size := fun h4 => by
    simp only at hff hfc
    rw [h4, form4] at hff
    simp only [Option.some.injEq, Prod.mk.injEq] at hff
    obtain ⟨rfl, rfl⟩ := hff
    have h1 := (ofB_all (show ofB fs.data.toList tenL (12 - 0) = true from checkR_right hfc)).2
    have h2 : fs.data.toList.length = fs.size := by simp
    omega
   have HSZ := Lib.hid hsz2
   obtain ⟨m, em⟩ : ∃ m, mapsM (F.take i) = m := ⟨_, rfl⟩
   rw [em] at HRw ⊢
   have htk : F.take (i + 1) = F.take i ++ [(fn, fs)] := by rw [List.take_succ_eq_append_getElem hlt, ef]
   have hmn : mapsM (F.take (i + 1)) = addBit m fn := by rw [htk, mapsM_snoc', em]
   have hln := longM m (no := fn) (by omega)
   have hbn := bytes_add m (no := fn) (by omega)
   obtain ⟨n, en⟩ : ∃ n, fn - 1 = n := ⟨_, rfl⟩
   obtain ⟨q, eq⟩ : ∃ q, (n / 8).toNat = q := ⟨_, rfl⟩
   obtain ⟨s, es⟩ : ∃ s, (n % 8).toNat = s := ⟨_, rfl⟩
   rw [en, eq, es] at hbn
   rw [en] at hln
   have hq : n / 8 = (q : Int) := by omega
   have hs : n % 8 = (s : Int) := by omega
   have hq16 : q < 16 := by omega
   have hq16' : (q : Int) < 16 := by omega
   have hs7 : s ≤ 7 := by omega
   have hsh : (128 : Int) / 2 ^ s = (((2 ^ (7 - s) : Nat)) : Int) := by
    have : s = 0 ∨ s = 1 ∨ s = 2 ∨ s = 3 ∨ s = 4 ∨ s = 5 ∨ s = 6 ∨ s = 7 := by omega
    rcases this with rfl | rfl | rfl | rfl | rfl | rfl | rfl | rfl <;> decide
   have hob := or_byte m q s hs7
   obtain ⟨y, ey⟩ : ∃ y, byteM m q ||| 2 ^ (7 - s) = y := ⟨_, rfl⟩
   have hy256 : y < 256 := by
    rw [← ey]
    exact Nat.or_lt_two_pow (n := 8) (byteM_lt m q) (Nat.lt_of_le_of_lt (Nat.pow_le_pow_right (by decide) (by omega : 7 - s ≤ 7)) (by decide))
   rw [ey] at hob hbn
   have hc0 : wr.cell? ⟨Bb, q, none⟩ = some (.int .u8 ((byteM m q : Nat) : Int)) := by
    have := HRw.out.cell q (by rw [bytesM_len]; exact hq16)
    rw [this]
    have h2 := bytesM_at m q hq16
    rw [List.getElem?_eq_getElem (by rw [bytesM_len]; exact hq16)] at h2
    rw [Option.some.inj h2, ofNat_byte]
   have hf0 : wr.frozen? ⟨Bb, q, none⟩ = false := HRw.out.frozen q
   have hlo := byteM_lt m q
   obtain ⟨z, ez⟩ : ∃ z, byteM m q = z := ⟨_, rfl⟩
   rw [ez] at hob hc0 hlo
   obtain ⟨tp, etp⟩ : ∃ tp : Nat, 2 ^ (7 - s) = tp := ⟨_, rfl⟩
   rw [etp] at hob hsh
   have hn1 : 1 ≤ n := by omega
   have hn2 : n ≤ 96 := by omega
   have hqt : n.tdiv 8 = (q : Int) := by rw [Int.tdiv_eq_ediv_of_nonneg (by omega)]; exact hq
   have hst : n.tmod 8 = (s : Int) := by rw [Int.tmod_eq_emod_of_nonneg (by omega)]; exact hs
   have hqw : IntKind.i64.wrap (q : Int) = (q : Int) := IntWalk.i64_in _ (by omega)
   have HHQ := Lib.hid (And.intro hmn (And.intro hln (And.intro hbn htk)))
   have HEN := Lib.hid en
   clear hmn hln hbn htk hff hfc hsz2 eq es ey ez etp em
   go_wp2_with fail
   go_still_tail 13, (by kernel_rfl)
   change wpList _ _ _ _ _ wr.drew
   obtain ⟨wd, ewd⟩ : ∃ W, wr.drew = W := ⟨_, rfl⟩
   have bd : Below wr.heap.size wr wd := by rw [← ewd]; exact drew_below _
   have hc1 := bd.keptCell hc0
   have hf1 : wd.frozen? ⟨Bb, q, none⟩ = false := by rw [← ewd]; exact hf0
   have HTd := Lib.hid (show Turn [Bb] w2 (wd.setCell ⟨Bb, q, none⟩ (.int .u8 (y : Int))) from (HTn.out.trans (Turn.of_below bd)).set (.inl (by simp)) q _)
   have HRd := Lib.hid (show RowAt (wd.setCell ⟨Bb, q, none⟩ (.int .u8 (y : Int))) Bb 5 (bytesM (mapsM (F.take (i + 1)))) by
    have h1 : RowAt wd Bb 5 (bytesM m) := by rw [← ewd]; exact HRw.out
    have h2 := h1.set q (UInt8.ofNat y)
    rw [UInt8.toNat_ofNat_of_lt' (by exact hy256)] at h2
    rw [HHQ.out.1, HHQ.out.2.2.1]
    exact h2)
   rw [ewd]
   have hb1 : Below w1.heap.size w1 (wd.setCell ⟨Bb, q, none⟩ (.int .u8 (y : Int))) := HB12.out.trans (HTd.out.below (by rw [HEB.out, HSz.out]; omega) (by rw [HEB.out]; simp))
   obtain ⟨n0, n1⟩ := MsgIn.turn K2.out HTd.out (by have := HBB.out; omega)
   obtain ⟨fb', fo', efb, p0, p1⟩ := (HF1.out.below hb1).get i hlt
   simp only [Option.some.injEq, Addr.mk.injEq, and_true] at efb
   obtain ⟨rfl, rfl⟩ := efb
   rw [ef] at p0 p1
   clear bd ewd m0 m1 q0 q1 hc0 hf0 hb1
   have HEF := Lib.hid ef
   clear ef
   have HRR := Lib.hid (And.intro hn1 (And.intro hn2 hr))
   obtain ⟨lb, elb⟩ : ∃ b, (!decide (m.2 = 0)) = b := ⟨_, rfl⟩
   have hlb := HHQ.out.2.1
   rw [show decide (m.2 ≠ 0) = !decide (m.2 = 0) from decide_not, elb] at hlb
   rw [elb]
   have HLB := Lib.hid hlb
   clear hlb elb hob hq hs hq16' hsh hqt hst hqw hlo
   by_cases hbx : badA O (fn, fs) = true
   ·have hb3 : d = 3 ∧ fn = 4 ∧ fs.extract 0 2 ≠ ⟨#[48, 48]⟩ := by
     unfold badA at hbx
     simp only [decide_eq_true_eq] at hbx
     obtain ⟨h1, h2, h3⟩ := hbx
     have h4 := HO3.out
     by_cases e : d = 3
     ·rw [if_pos e] at h4
      subst h4
      exact ⟨e, h1, h3⟩
     ·rw [if_neg e] at h4
      omega
    obtain ⟨rfl, rfl, h00⟩ := hb3
    have h2 := HSZ.out rfl
    have h2' : (2 : Int) ≤ fs.size := by omega
    have HR : encR 3 ty F = ([], 41) := by
     unfold encR
     rw [if_pos (by decide)]
     have he : encE (dia 3).2.2 ty F = some (.field 4 41) := by
      unfold encE
      rw [HCK.out]
      simp only
      rw [if_pos]
      rw [List.any_eq_true]
      exact ⟨(4, fs), by rw [← HEF.out]; exact List.getElem_mem hlt, by rw [HO.out]; exact hbx⟩
     rw [he]
     unfold encB
     rw [he]
     rfl
    have HRh := Lib.hid HR
    have hs00 : ((fs.extract 0 2).toList == [48, 48]) = false := by
     have : ¬ (fs.extract 0 2).toList = [48, 48] := fun h => h00 (arr_list (by rw [ByteArray.toList_eq] at h; exact h))
     simpa using this
    clear HR hbx
    have HBF := Lib.hid (HB2.out.trans (HTd.out.below HB2.out.size (by have := HBB.out; simpa using Nat.le_of_lt this)))
    go_wp2_with fail
    all_goals
     go_ret2
     exact ⟨_, by rw [HRh.out]; rfl, by rw [HRh.out]; exact Txt.nil _ _, HBF.out⟩
   ·have hbf : badA O (fn, fs) = false := by simpa using hbx
    have HBn := Lib.hid (show (F.take (i + 1)).any (badA O) = false by rw [HHQ.out.2.2.2, List.any_append, HBad.out]; simp [hbf])
    have HBF := Lib.hid hbf
    clear hbx hbf
    by_cases e3 : d = 3
    ·subst e3
     by_cases e4 : fn = 4
     ·subst e4
      have h2 := HSZ.out rfl
      have h2' : (2 : Int) ≤ fs.size := by omega
      have h00 : fs.extract 0 2 = ⟨#[48, 48]⟩ := by
       have h1 := HBF.out
       have h4 := HO3.out
       rw [if_pos rfl] at h4
       subst h4
       unfold badA at h1
       simpa using h1
      cases lb
      all_goals
       go_wp2_with fail
       go_roundw
       case rel => exact ⟨i + 1, by omega, by go_num, by rw [HHQ.out.1, HLB.out]; rfl, HTd.out, HRd.out, HBn.out⟩
       case measure => simp [intOf]; omega
     ·have e4' : (fn == 4) = false := by simpa using e4
      cases lb
      all_goals
       go_wp2_with fail
       go_roundw
       case rel => exact ⟨i + 1, by omega, by go_num, by rw [HHQ.out.1, HLB.out]; rfl, HTd.out, HRd.out, HBn.out⟩
       case measure => simp [intOf]; omega
    ·have e3' : (d == 3) = false := by simpa using e3
     cases lb
     all_goals
      go_wp2_with fail
      go_roundw
      case rel => exact ⟨i + 1, by omega, by go_num, by rw [HHQ.out.1, HLB.out]; rfl, HTd.out, HRd.out, HBn.out⟩
      case measure => simp [intOf]; omega
  ·obtain rfl : i = F.length := by omega
   have hge : ¬ ((F.length : Nat) : Int) < F.length := by omega
   have hfull : F.take F.length = F := List.take_length
   rw [hfull] at HRw HBad ⊢
   have hok : ∀ x ∈ F, OkF O x := fun x hx => by
    obtain ⟨_, k, s, h1, h2⟩ := HA.out x hx
    refine ⟨⟨k, s, h1, h2⟩, ?_⟩
    cases hb : badA O x with
    | false => rfl
    | true => rw [List.any_eq_true.2 ⟨x, hx, hb⟩] at HBad; exact absurd HBad.out (by decide)
   obtain ⟨hmx1, hmx2⟩ := maps_lt (ok_range hok)
   have hcod := dia_ok HD.out
   rw [HO.out, (dia_id HD.out).1] at hcod
   have HER : encR d ty F = (headM d (dia d).2.1 ty ++ mapB d (mapsM F) ++ bodyM d O F, 0) := by
    unfold encR
    rw [if_pos HD.out, HO.out]
    have he : encE O ty F = none := by
     unfold encE
     rw [HCK.out]
     simp only
     rw [HBad.out]
     rfl
    rw [encB_none he, he, (dia_id HD.out).1]
    rfl
   obtain ⟨ver, ev⟩ : ∃ v, (dia d).2.1 = v := ⟨_, rfl⟩
   rw [ev] at HER hcod
   obtain ⟨m, em⟩ : ∃ m, mapsM F = m := ⟨_, rfl⟩
   rw [em] at HRw HER hmx1 hmx2 ⊢
   have HEV := Lib.hid ev
   have HEM := Lib.hid em
   have HOK := Lib.hid hok
   have HRes := Lib.hid HER
   have HMX := Lib.hid (And.intro hmx1 hmx2)
   have HCOD := Lib.hid hcod
   clear hfull hok hcod HER ev em hmx1 hmx2
   obtain ⟨lb, elb⟩ : ∃ b, decide (m.2 ≠ 0) = b := ⟨_, rfl⟩
   rw [elb]
   have HLB := Lib.hid elb
   clear elb
   go_upto_if 83 with fail
   go_cut [7] (fun sv wx => sv = .slice (some ⟨Bb, 0, none⟩) (if m.2 = 0 then 8 else 16) 16 ∧ Turn [Bb] w2 wx ∧ RowAt wx Bb 5 (bytesM (topBit m, m.2)))
   case first =>
    by_cases h0 : m.2 = 0
    ·obtain rfl : lb = false := by rw [← HLB.out]; exact decide_eq_false (by simpa using h0)
     have HH0 := Lib.hid h0
     clear h0
     go_wp2_with fail
     go_meet
     exact ⟨by rw [if_pos HH0.out], HTn.out, by rw [top_none m HH0.out]; exact HRw.out⟩
    ·obtain rfl : lb = true := by rw [← HLB.out]; exact decide_eq_true h0
     have hob := or_byte m 0 0 (by omega)
     obtain ⟨y, ey⟩ : ∃ y, byteM m 0 ||| 128 = y := ⟨_, rfl⟩
     have hy256 : y < 256 := by rw [← ey]; exact Nat.or_lt_two_pow (n := 8) (byteM_lt m 0) (by decide)
     rw [show (2 : Nat) ^ (7 - 0) = 128 from rfl, ey] at hob
     have hbt := bytes_top m h0
     rw [ey] at hbt
     have hc0 : wr.cell? ⟨Bb, 0, none⟩ = some (.int .u8 ((byteM m 0 : Nat) : Int)) := by
      have := HRw.out.cell 0 (by rw [bytesM_len]; decide)
      rw [this]
      have h2 := bytesM_at m 0 (by decide)
      rw [List.getElem?_eq_getElem (by rw [bytesM_len]; decide)] at h2
      rw [Option.some.inj h2, ofNat_byte]
     have hf0 : wr.frozen? ⟨Bb, 0, none⟩ = false := HRw.out.frozen 0
     have hob' : bits BinOp.or IntKind.u8 ((byteM m 0 : Nat) : Int) 128 = ((y : Nat) : Int) := hob
     obtain ⟨z, ez⟩ : ∃ z, byteM m 0 = z := ⟨_, rfl⟩
     rw [ez] at hob' hc0
     have HTd := Lib.hid (show Turn [Bb] w2 (wr.setCell ⟨Bb, 0, none⟩ (.int .u8 (y : Int))) from HTn.out.set (.inl (by simp)) 0 _)
     have HRd := Lib.hid (show RowAt (wr.setCell ⟨Bb, 0, none⟩ (.int .u8 (y : Int))) Bb 5 (bytesM (topBit m, m.2)) by
      have h2 := HRw.out.set 0 (UInt8.ofNat y)
      rw [UInt8.toNat_ofNat_of_lt' (by exact hy256)] at h2
      rw [hbt]
      exact h2)
     have HH0 := Lib.hid h0
     clear h0 hob ey hbt ez
     go_wp2_with fail
     go_meet
     exact ⟨by rw [if_neg HH0.out], HTd.out, HRd.out⟩
   case rest =>
    obtain ⟨wx, rfl⟩ : ∃ W, W = wc := ⟨_, rfl⟩
    obtain ⟨rfl, ht, hrow⟩ := hcut
    obtain ⟨nn, enn⟩ : ∃ n : Nat, (if m.2 = 0 then 8 else 16) = n := ⟨_, rfl⟩
    rw [enn]
    have hnn : nn = 8 ∨ nn = 16 := by rw [← enn]; split <;> simp
    have HNN := Lib.hid (And.intro enn hnn)
    clear enn hnn
    have HHX := Lib.hid (And.intro ht hrow)
    obtain ⟨hsx, esx⟩ : ∃ s : ByteArray, (⟨(UInt8.ofNat ver.toNat :: Lib.itoa ty).toArray⟩ : ByteArray) = s := ⟨_, rfl⟩
    have HHD := Lib.hid (fun W => show Calls Tryz.prog 39 #[.int .i64 d, .int .i64 ty] W fun e w' => e = .returned (.string hsx) ∧ Below W.heap.size W w' by
     have := refhead_any (w := W) HD.out HT.out
     rw [HEV.out, esx] at this
     exact this)
    have HPU := Lib.hid (fun W => show Calls Tryz.prog 37 #[.slice none 0 0, .agg #[.int .i64 1, .int .i64 4, .int .i64 d], .string hsx] W fun e w' => ∃ bv, e = .returned (.tuple #[bv, .int .i64 0]) ∧ Txt w' W.heap.size bv (headM d ver ty) ∧ Below W.heap.size W w' by
     have hk := head_ok HCOD.out.1 HCOD.out.2.1 HT.out
     have hdl : hsx.data.toList = UInt8.ofNat ver.toNat :: Lib.itoa ty := by rw [← esx]
     have := refput_any 1 4 d hsx none 0 [] W (by have h2 := hk.2; rw [← hdl] at h2; have h3 : hsx.data.toList.length = hsx.size := by simp
                                                  omega) (by decide) (Kd.C_nil _ _) (Nat.le_refl _)
     rw [putR_of _ (by rw [hdl]; exact hk.1), hdl] at this
     exact this.mono fun e w' h => by
      obtain ⟨bv, rfl, hb, hbl⟩ := h
      exact ⟨bv, rfl, Txt.of hb (Nat.le_refl _), hbl⟩)
    have HMX1 := Lib.hid (MsgIn.turn K2.out ht (by have := HBB.out; omega))
    have HLX := Lib.hid (show Bb + 1 ≤ wx.heap.size by have := ht.size; rw [HSz.out] at this; exact this)
    clear ht hrow m0 m1 HRw HTn HFw esx
    go_upto_region 19 with fail
    go_cut [11] (fun bv wy => Txt wy (Bb + 1) bv (headM d ver ty) ∧ Turn [Bb] w2 wy ∧ RowAt wy Bb 5 (bytesM (topBit m, m.2)))
    case first =>
     have HBc := Lib.hid (show Below wx.heap.size wx wx.drew from drew_below _)
     refine wp_region_held_drew (S := (fun W => MsgIn W w.heap.size ty (.slice p F.length c))) (by kernel_rfl) (HMX1.out) (fun hHeld => ?_)
     refine wpAnyH_take (i := 0) (oi := { dst := some 93, op := Op.move (Operand.tmp 0), type := 3, pos := _, after := _, guard := _ }) (v := ?_) rfl (by kernel_rfl) (by kernel_rfl) (by kernel_rfl) (fun _ _ _ h => h) (Or.inl ⟨by rfl, ?hyr191⟩) (by assumption) ?restr191
     case hyr191 => (intro w hSw; (try dsimp only at hSw); go_simp; try with_reducible rfl)
     try simp only [Act.put, List.setIfInBounds_toArray, List.set_cons_zero, List.set_cons_succ]
     refine wpAnyH_take (i := 2) (oi := { dst := some 95, op := Op.move (Operand.tmp 0), type := 3, pos := _, after := _, guard := _ }) (v := ?_) rfl (by kernel_rfl) (by kernel_rfl) (by kernel_rfl) (fun _ _ _ h => h) (Or.inl ⟨by rfl, ?hyr194⟩) (by assumption) ?restr194
     case hyr194 => (intro w hSw; (try dsimp only at hSw); go_simp; try with_reducible rfl)
     try simp only [Act.put, List.setIfInBounds_toArray, List.set_cons_zero, List.set_cons_succ]
     refine wpAnyH_take (i := 3) (oi := { dst := some 96, op := Op.fieldAddr 24 (Operand.tmp 3) 0, type := 0, pos := _, after := _, guard := _ }) (v := ?_) rfl (by kernel_rfl) (by kernel_rfl) (by kernel_rfl) (fun _ _ _ h => h) (Or.inl ⟨by rfl, ?hyr197⟩) (by assumption) ?restr197
     case hyr197 => (intro W hSw; obtain ⟨s0, s1⟩ := hSw; go_simp; try with_reducible rfl)
     try simp only [Act.put, List.setIfInBounds_toArray, List.set_cons_zero, List.set_cons_succ]
     refine wpAnyH_take (i := 4) (oi := { dst := some 97, op := Op.load 3 (Operand.tmp 96), type := 3, pos := _, after := _, guard := _ }) (v := ?_) rfl (by kernel_rfl) (by kernel_rfl) (by kernel_rfl) (fun _ _ _ h => h) (Or.inl ⟨by rfl, ?hyr1910⟩) (by assumption) ?restr1910
     case hyr1910 => (intro W hSw; obtain ⟨s0, s1⟩ := hSw; go_simp; try with_reducible rfl)
     try simp only [Act.put, List.setIfInBounds_toArray, List.set_cons_zero, List.set_cons_succ]
     refine wpAnyH_ready (rs := [1]) (by kernel_rfl) (by simp) (AllReadyH.cons (o := { dst := some 94, op := Op.call { callee := Callee.value (Operand.func 38), args := #[Operand.tmp 93, Operand.const (Value.int IntKind.i64 4)], argTypes := #[3, 3] }, type := 46, pos := _, after := _, guard := _ }) rfl (fun K hK => ?_) AllReadyH.nil)
     go_simp
     refine (refnum_any d 4).mono ?_
     rintro e wa ⟨rfl, b1⟩
     have HBn := Lib.hid (HBc.out.trans (b1.mono HBc.out.size))
     clear b1 HBc
     have HBc := HBn
     clear HBn
     refine hK.out _ _ ((HMX1.out.below HBc.out)) (fun hHeld => ?_)
     clear hK K
     try simp only [Act.put, List.setIfInBounds_toArray, List.set_cons_zero, List.set_cons_succ]
     refine wpAnyH_ready (rs := [5]) (by kernel_rfl) (by simp) (AllReadyH.cons (o := { dst := some 98, op := Op.call { callee := Callee.value (Operand.func 39), args := #[Operand.tmp 95, Operand.tmp 97], argTypes := #[3, 3] }, type := 9, pos := _, after := _, guard := _ }) rfl (fun K hK => ?_) AllReadyH.nil)
     go_simp
     refine (HHD.out _).mono ?_
     rintro e wb ⟨rfl, b1⟩
     have HBn := Lib.hid (HBc.out.trans (b1.mono HBc.out.size))
     clear b1 HBc
     have HBc := HBn
     clear HBn
     refine hK.out _ _ ((HMX1.out.below HBc.out)) (fun hHeld => ?_)
     clear hK K
     try simp only [Act.put, List.setIfInBounds_toArray, List.set_cons_zero, List.set_cons_succ]
     refine wpAnyH_ready (rs := [6]) (by kernel_rfl) (by simp) (AllReadyH.cons (o := { dst := some 99, op := Op.call { callee := Callee.value (Operand.func 37), args := #[Operand.const (Value.slice none 0 0), Operand.tmp 94, Operand.tmp 98], argTypes := #[33, 46, 9] }, type := 35, pos := _, after := _, guard := _ }) rfl (fun K hK => ?_) AllReadyH.nil)
     go_simp
     refine (HPU.out _).mono ?_
     rintro e wz ⟨bv, rfl, hbv, b1⟩
     have HTX := Lib.hid (hbv.of_lower (Nat.le_trans HLX.out HBc.out.size))
     have HBn := Lib.hid (HBc.out.trans (b1.mono HBc.out.size))
     clear b1 hbv HBc
     have HBc := HBn
     clear HBn
     refine hK.out _ _ ((HMX1.out.below HBc.out)) (fun hHeld => ?_)
     clear hK K
     try simp only [Act.put, List.setIfInBounds_toArray, List.set_cons_zero, List.set_cons_succ]
     refine wpAnyH_take (i := 7) (oi := { dst := some 92, op := Op.move (Operand.tmp 99), type := 35, pos := _, after := _, guard := _ }) (v := ?_) rfl (by kernel_rfl) (by kernel_rfl) (by kernel_rfl) (fun _ _ _ h => h) (Or.inl ⟨by rfl, ?hyr1947⟩) (by assumption) ?restr1947
     case hyr1947 => (intro w hSw; (try dsimp only at hSw); go_simp; try with_reducible rfl)
     try simp only [Act.put, List.setIfInBounds_toArray, List.set_cons_zero, List.set_cons_succ]
     refine wpAnyH_take (i := 8) (oi := { dst := some 100, op := Op.extract (Operand.tmp 92) 0, type := 33, pos := _, after := _, guard := _ }) (v := ?_) rfl (by kernel_rfl) (by kernel_rfl) (by kernel_rfl) (fun _ _ _ h => h) (Or.inl ⟨by rfl, ?hyr1950⟩) (by assumption) ?restr1950
     case hyr1950 => (intro w hSw; (try dsimp only at hSw); go_simp; try with_reducible rfl)
     try simp only [Act.put, List.setIfInBounds_toArray, List.set_cons_zero, List.set_cons_succ]
     refine wpAnyH_take (i := 9) (oi := { dst := some 101, op := Op.extract (Operand.tmp 92) 1, type := 34, pos := _, after := _, guard := _ }) (v := ?_) rfl (by kernel_rfl) (by kernel_rfl) (by kernel_rfl) (fun _ _ _ h => h) (Or.inl ⟨by rfl, ?hyr1953⟩) (by assumption) ?restr1953
     case hyr1953 => (intro w hSw; (try dsimp only at hSw); go_simp; try with_reducible rfl)
     try simp only [Act.put, List.setIfInBounds_toArray, List.set_cons_zero, List.set_cons_succ]
     refine wpAnyH_take (i := 10) (oi := { dst := some 11, op := Op.assign (Operand.tmp 100), type := 33, pos := _, after := _, guard := _ }) (v := ?_) rfl (by kernel_rfl) (by kernel_rfl) (by kernel_rfl) (fun _ _ _ h => h) (Or.inl ⟨by rfl, ?hyr1956⟩) (by assumption) ?restr1956
     case hyr1956 => (intro w hSw; (try dsimp only at hSw); go_simp; try with_reducible rfl)
     try simp only [Act.put, List.setIfInBounds_toArray, List.set_cons_zero, List.set_cons_succ]
     refine wpAnyH_take (i := 11) (oi := { dst := some 12, op := Op.assign (Operand.tmp 101), type := 34, pos := _, after := _, guard := _ }) (v := ?_) rfl (by kernel_rfl) (by kernel_rfl) (by kernel_rfl) (fun _ _ _ h => h) (Or.inl ⟨by rfl, ?hyr1959⟩) (by assumption) ?restr1959
     case hyr1959 => (intro w hSw; (try dsimp only at hSw); go_simp; try with_reducible rfl)
     try simp only [Act.put, List.setIfInBounds_toArray, List.set_cons_zero, List.set_cons_succ]
     refine wpAnyH_done (by kernel_rfl) ?_ _
     clear hHeld
     go_wp2_with fail
     go_meet
     exact ⟨HTX.out, HHX.out.1.trans (Turn.of_below HBc.out), (HBc.out.block Bb (by have := HLX.out; omega)).trans HHX.out.2⟩
    case rest =>
     obtain ⟨wy, rfl⟩ : ∃ W, W = wc := ⟨_, rfl⟩
     obtain ⟨htx, ht, hrow⟩ := hcut
     obtain ⟨P, eP⟩ : ∃ P, bytesM (topBit m, m.2) = P := ⟨_, rfl⟩
     have hPl : P.length = 16 := by rw [← eP]; exact bytesM_len _
     rw [eP] at hrow
     have hP16 : nn ≤ 16 := by have := HNN.out.2; omega
     have HPl := Lib.hid hPl
     have HEP := Lib.hid eP
     have HTX := Lib.hid htx
     have HTY := Lib.hid ht
     have HRY := Lib.hid hrow
     have HLY := Lib.hid (show Bb + 1 ≤ wy.heap.size by have := ht.size; rw [HSz.out] at this; exact this)
     have HHL := Lib.hid (head_small HCOD.out.1 HCOD.out.2.1 HT.out)
     clear htx ht hrow hPl eP HHX HHD HPU HMX1 HLX
     go_wp2_with fail
     go_loopw [13, 11] (fun iv bv wr => ∃ i : Nat, i ≤ nn ∧ iv = .int .i64 i ∧ Txt wr (Bb + 1) bv (headM d ver ty ++ mapE d (P.take i)) ∧ Turn [Bb] w2 wr ∧ RowAt wr Bb 5 P) (fun iv _ _ => nn - (intOf iv).toNat)
     case atStart => exact ⟨0, Nat.zero_le _, rfl, by rw [List.take_zero]; show Txt wy (Bb + 1) _ (headM d ver ty ++ []); rw [List.append_nil]; exact HTX.out, HTY.out, HRY.out⟩
     case round =>
      obtain ⟨i, hi, rfl, htx, ht, hrow⟩ := hrel
      have HTr := Lib.hid ht
      have HRr := Lib.hid hrow
      have HXr := Lib.hid htx
      have HLr := Lib.hid (show Bb + 1 ≤ wr.heap.size by have := ht.size; rw [HSz.out] at this; exact this)
      have hml : (mapE d (P.take i)).length ≤ 2 * i := by
       have h1 : ∀ l : List UInt8, (mapE d l).length ≤ 2 * l.length := fun l => by
        induction l with
        | nil => simp [mapE]
        | cons x r ih =>
         have : mapE d (x :: r) = byteE d x ++ mapE d r := rfl
         rw [this, List.length_append, List.length_cons]
         have h2 : (byteE d x).length ≤ 2 := by unfold byteE; split <;> simp
         omega
       have := h1 (P.take i)
       rw [List.length_take] at this
       omega
      have HML := Lib.hid (show (headM d ver ty ++ mapE d (P.take i)).length ≤ 2000 by have := HHL.out; rw [List.length_append]; omega)
      clear ht hrow htx hml
      by_cases hlt : i < nn
      ·have hlt' : (i : Int) < nn := by omega
       have hiP : i < P.length := by rw [HPl.out]; omega
       obtain ⟨cb, ecb⟩ : ∃ x, P[i] = x := ⟨_, rfl⟩
       have hc0 := HRr.out.cell i hiP
       rw [ecb] at hc0
       have HPS := Lib.hid (show P.take (i + 1) = P.take i ++ [cb] by rw [List.take_succ_eq_append_getElem hiP, ecb])
       obtain ⟨c8, ec8⟩ : ∃ n, cb.toNat = n := ⟨_, rfl⟩
       rw [ec8] at hc0
       have hc256 : c8 < 256 := by rw [← ec8]; exact cb.toNat_lt
       have HC8 := Lib.hid ec8
       have HCB := Lib.hid ecb
       clear ecb ec8
       by_cases hd1 : d = 1
       ·subst hd1
        have HBE := Lib.hid (show byteE 1 cb = [highC (hexd (c8 / 16)), highC (hexd (c8 % 16))] by unfold byteE; rw [if_pos rfl, HC8.out])
        obtain ⟨qh, eqh⟩ : ∃ q, c8 / 16 = q := ⟨_, rfl⟩
        obtain ⟨rh, erh⟩ : ∃ r, c8 % 16 = r := ⟨_, rfl⟩
        rw [eqh, erh] at HBE
        have hq1 : ((c8 : Nat) : Int) / 16 = (qh : Int) := by omega
        have hr1 : ((c8 : Nat) : Int) % 16 = (rh : Int) := by omega
        have hq2 : ((c8 : Nat) : Int).tdiv 16 = (qh : Int) := by rw [Int.tdiv_eq_ediv_of_nonneg (by omega)]; exact hq1
        have hr2 : ((c8 : Nat) : Int).tmod 16 = (rh : Int) := by rw [Int.tmod_eq_emod_of_nonneg (by omega)]; exact hr1
        have hqw : IntKind.u8.wrap (qh : Int) = (qh : Int) := by rw [IntKind.wrap_u8]; omega
        have hrw : IntKind.u8.wrap (rh : Int) = (rh : Int) := by rw [IntKind.wrap_u8]; omega
        have hq16 : qh < 16 := by omega
        have hr16 : rh < 16 := by omega
        have hq16' : (qh : Int) < 16 := by omega
        have hr16' : (rh : Int) < 16 := by omega
        clear eqh erh
        go_wp2_with fail
        have hu1 := hexU qh hq16 hq16
        have hu2 := hexU rh hr16 hr16
        have HU := Lib.hid (And.intro hu1 hu2)
        clear hu1 hu2
        refine wp_region_held_drew (S := (fun W => W.cell? ⟨Bb, i, none⟩ = some (.int .u8 (c8 : Int)))) (by kernel_rfl) (hc0) (fun hHeld => ?_)
        refine wpAnyH_take (i := 0) (oi := { dst := some 110, op := Op.move (Operand.tmp 11), type := 33, pos := _, after := _, guard := _ }) (v := ?_) rfl (by kernel_rfl) (by kernel_rfl) (by kernel_rfl) (fun _ _ _ h => h) (Or.inl ⟨by rfl, ?hyr241⟩) (by assumption) ?restr241
        case hyr241 => (intro w hSw; (try dsimp only at hSw); go_simp; try with_reducible rfl)
        try simp only [Act.put, List.setIfInBounds_toArray, List.set_cons_zero, List.set_cons_succ]
        refine wpAnyH_take (i := 1) (oi := { dst := some 111, op := Op.move (Operand.tmp 7), type := 33, pos := _, after := _, guard := _ }) (v := ?_) rfl (by kernel_rfl) (by kernel_rfl) (by kernel_rfl) (fun _ _ _ h => h) (Or.inl ⟨by rfl, ?hyr244⟩) (by assumption) ?restr244
        case hyr244 => (intro w hSw; (try dsimp only at hSw); go_simp; try with_reducible rfl)
        try simp only [Act.put, List.setIfInBounds_toArray, List.set_cons_zero, List.set_cons_succ]
        refine wpAnyH_take (i := 2) (oi := { dst := some 112, op := Op.move (Operand.tmp 13), type := 3, pos := _, after := _, guard := _ }) (v := ?_) rfl (by kernel_rfl) (by kernel_rfl) (by kernel_rfl) (fun _ _ _ h => h) (Or.inl ⟨by rfl, ?hyr247⟩) (by assumption) ?restr247
        case hyr247 => (intro w hSw; (try dsimp only at hSw); go_simp; try with_reducible rfl)
        try simp only [Act.put, List.setIfInBounds_toArray, List.set_cons_zero, List.set_cons_succ]
        refine wpAnyH_take (i := 3) (oi := { dst := some 113, op := Op.indexAddr 33 (Operand.tmp 111) (Operand.tmp 112), type := 0, pos := _, after := _, guard := _ }) (v := ?_) rfl (by kernel_rfl) (by kernel_rfl) (by kernel_rfl) (fun _ _ _ h => h) (Or.inl ⟨by rfl, ?hyr2410⟩) (by assumption) ?restr2410
        case hyr2410 => (intro w hSw; (try dsimp only at hSw); go_simp; try with_reducible rfl)
        try simp only [Act.put, List.setIfInBounds_toArray, List.set_cons_zero, List.set_cons_succ]
        refine wpAnyH_take (i := 4) (oi := { dst := some 114, op := Op.load 5 (Operand.tmp 113), type := 5, pos := _, after := _, guard := _ }) (v := ?_) rfl (by kernel_rfl) (by kernel_rfl) (by kernel_rfl) (fun _ _ _ h => h) (Or.inl ⟨by rfl, ?hyr2413⟩) (by assumption) ?restr2413
        case hyr2413 => (intro w hSw; (try dsimp only at hSw); go_simp; try with_reducible rfl)
        try simp only [Act.put, List.setIfInBounds_toArray, List.set_cons_zero, List.set_cons_succ]
        refine wpAnyH_take (i := 5) (oi := { dst := some 115, op := Op.binOp BinOp.quo 5 (Operand.tmp 114) (Operand.const (Value.int IntKind.u8 16)) 5, type := 5, pos := _, after := _, guard := _ }) (v := ?_) rfl (by kernel_rfl) (by kernel_rfl) (by kernel_rfl) (fun _ _ _ h => h) (Or.inl ⟨by rfl, ?hyr2416⟩) (by assumption) ?restr2416
        case hyr2416 => (intro w hSw; (try dsimp only at hSw); go_simp; try with_reducible rfl)
        try simp only [Act.put, List.setIfInBounds_toArray, List.set_cons_zero, List.set_cons_succ]
        refine wpAnyH_take (i := 6) (oi := { dst := some 116, op := Op.index 9 (Operand.const (Value.string { data := #[48, 49, 50, 51, 52, 53, 54, 55, 56, 57, 65, 66, 67, 68, 69, 70] })) (Operand.tmp 115), type := 5, pos := _, after := _, guard := _ }) (v := ?_) rfl (by kernel_rfl) (by kernel_rfl) (by kernel_rfl) (fun _ _ _ h => h) (Or.inl ⟨by rfl, ?hyr2419⟩) (by assumption) ?restr2419
        case hyr2419 => (intro w hSw; (try dsimp only at hSw); go_simp; try with_reducible rfl)
        try simp only [Act.put, List.setIfInBounds_toArray, List.set_cons_zero, List.set_cons_succ]
        refine wpAnyH_take (i := 7) (oi := { dst := some 117, op := Op.move (Operand.tmp 7), type := 33, pos := _, after := _, guard := _ }) (v := ?_) rfl (by kernel_rfl) (by kernel_rfl) (by kernel_rfl) (fun _ _ _ h => h) (Or.inl ⟨by rfl, ?hyr2422⟩) (by assumption) ?restr2422
        case hyr2422 => (intro w hSw; (try dsimp only at hSw); go_simp; try with_reducible rfl)
        try simp only [Act.put, List.setIfInBounds_toArray, List.set_cons_zero, List.set_cons_succ]
        refine wpAnyH_take (i := 8) (oi := { dst := some 118, op := Op.move (Operand.tmp 13), type := 3, pos := _, after := _, guard := _ }) (v := ?_) rfl (by kernel_rfl) (by kernel_rfl) (by kernel_rfl) (fun _ _ _ h => h) (Or.inl ⟨by rfl, ?hyr2425⟩) (by assumption) ?restr2425
        case hyr2425 => (intro w hSw; (try dsimp only at hSw); go_simp; try with_reducible rfl)
        try simp only [Act.put, List.setIfInBounds_toArray, List.set_cons_zero, List.set_cons_succ]
        refine wpAnyH_take (i := 9) (oi := { dst := some 119, op := Op.indexAddr 33 (Operand.tmp 117) (Operand.tmp 118), type := 0, pos := _, after := _, guard := _ }) (v := ?_) rfl (by kernel_rfl) (by kernel_rfl) (by kernel_rfl) (fun _ _ _ h => h) (Or.inl ⟨by rfl, ?hyr2428⟩) (by assumption) ?restr2428
        case hyr2428 => (intro w hSw; (try dsimp only at hSw); go_simp; try with_reducible rfl)
        try simp only [Act.put, List.setIfInBounds_toArray, List.set_cons_zero, List.set_cons_succ]
        refine wpAnyH_take (i := 10) (oi := { dst := some 120, op := Op.load 5 (Operand.tmp 119), type := 5, pos := _, after := _, guard := _ }) (v := ?_) rfl (by kernel_rfl) (by kernel_rfl) (by kernel_rfl) (fun _ _ _ h => h) (Or.inl ⟨by rfl, ?hyr2431⟩) (by assumption) ?restr2431
        case hyr2431 => (intro w hSw; (try dsimp only at hSw); go_simp; try with_reducible rfl)
        try simp only [Act.put, List.setIfInBounds_toArray, List.set_cons_zero, List.set_cons_succ]
        refine wpAnyH_take (i := 11) (oi := { dst := some 121, op := Op.binOp BinOp.rem 5 (Operand.tmp 120) (Operand.const (Value.int IntKind.u8 16)) 5, type := 5, pos := _, after := _, guard := _ }) (v := ?_) rfl (by kernel_rfl) (by kernel_rfl) (by kernel_rfl) (fun _ _ _ h => h) (Or.inl ⟨by rfl, ?hyr2434⟩) (by assumption) ?restr2434
        case hyr2434 => (intro w hSw; (try dsimp only at hSw); go_simp; try with_reducible rfl)
        try simp only [Act.put, List.setIfInBounds_toArray, List.set_cons_zero, List.set_cons_succ]
        refine wpAnyH_take (i := 12) (oi := { dst := some 122, op := Op.index 9 (Operand.const (Value.string { data := #[48, 49, 50, 51, 52, 53, 54, 55, 56, 57, 65, 66, 67, 68, 69, 70] })) (Operand.tmp 121), type := 5, pos := _, after := _, guard := _ }) (v := ?_) rfl (by kernel_rfl) (by kernel_rfl) (by kernel_rfl) (fun _ _ _ h => h) (Or.inl ⟨by rfl, ?hyr2437⟩) (by assumption) ?restr2437
        case hyr2437 => (intro w hSw; (try dsimp only at hSw); go_simp; try with_reducible rfl)
        try simp only [Act.put, List.setIfInBounds_toArray, List.set_cons_zero, List.set_cons_succ]
        refine wpAnyH_ready (rs := [13]) (by kernel_rfl) (by simp) (AllReadyH.cons (o := { dst := some 123, op := Op.buildSlice 33 2 #[(0, Operand.tmp 116), (1, Operand.tmp 122)], type := 33, pos := _, after := _, guard := _ }) rfl (fun K hK => ?_) AllReadyH.nil)
        refine step_bs2 rfl (.tmp 116) (.tmp 122) rfl _ _ rfl rfl (fun e2 wn hb hk => ?_)
        rw [HU.out.1, HU.out.2] at hk
        have hbn := (drew_below wr).trans hb
        have HBN := Lib.hid hbn
        have HK2 := Lib.hid hk
        clear hbn hk
        refine hK.out _ _ ((by have := hb.keptCell hHeld; exact this)) (fun hHeld => ?_)
        clear hK K
        try simp only [Act.put, List.setIfInBounds_toArray, List.set_cons_zero, List.set_cons_succ]
        refine wpAnyH_ready (rs := [14]) (by kernel_rfl) (by simp) (AllReadyH.cons (o := { dst := some 124, op := Op.call { callee := Callee.builtin Builtin.append, args := #[Operand.tmp 110, Operand.tmp 123], argTypes := #[33, 33] }, type := 33, pos := _, after := _, guard := _ }) rfl (fun K hK => ?_) AllReadyH.nil)
        refine step_appT (Bb + 1) rfl (.tmp 110) (.tmp 123) rfl rfl (HXr.out.below HBN.out) rfl (r := [highC (hexd qh), highC (hexd rh)]) (bytes2 HK2.out) (Nat.le_trans HLr.out HBN.out.size) (by have := HML.out; omega) (fun v6 w6 h6 b6 _ => ?_)
        have H6 := Lib.hid h6
        have B6 := Lib.hid b6
        clear h6 b6
        refine hK.out _ _ (((World.cell?_of_block (a := ⟨Bb, i, none⟩) (B6.out.block Bb (Nat.lt_succ_self _))).trans hHeld)) (fun hHeld => ?_)
        clear hK K
        try simp only [Act.put, List.setIfInBounds_toArray, List.set_cons_zero, List.set_cons_succ]
        refine wpAnyH_take (i := 15) (oi := { dst := some 11, op := Op.assign (Operand.tmp 124), type := 33, pos := _, after := _, guard := _ }) (v := ?_) rfl (by kernel_rfl) (by kernel_rfl) (by kernel_rfl) (fun _ _ _ h => h) (Or.inl ⟨by rfl, ?hyr2458⟩) (by assumption) ?restr2458
        case hyr2458 => (intro w hSw; (try dsimp only at hSw); go_simp; try with_reducible rfl)
        try simp only [Act.put, List.setIfInBounds_toArray, List.set_cons_zero, List.set_cons_succ]
        refine wpAnyH_done (by kernel_rfl) ?_ _
        clear hHeld
        go_wp2_with fail
        go_roundw
        case rel =>
         have hbb : Below (Bb + 1) wr w6 := (HBN.out.mono HLr.out).trans B6.out
         exact ⟨i + 1, by omega, by go_num, by rw [HPS.out, mapE_snoc, HBE.out, ← List.append_assoc]; exact H6.out, turn_of HTr.out hbb HSz.out, (hbb.block Bb (Nat.lt_succ_self _)).trans HRr.out⟩
        case measure => simp [intOf]; omega
       ·have hd1' : (d == 1) = false := by simpa using hd1
        have HBE := Lib.hid (show byteE d cb = [cb] by unfold byteE; rw [if_neg hd1])
        clear hd1
        go_wp2_with (first
         | ((with_reducible refine gate_builtin (b := .append) (xs := #[.tmp 125, .tmp 130]) rfl ?_); at_builtin; refine wpList_appT (Bb + 1) rfl (.tmp 125) (.tmp 130) rfl rfl (HXr.out.below (alloc_below _ _)) rfl (r := [cb]) ?hC (Nat.le_trans HLr.out (alloc_below _ _).size) (by have := HML.out; omega) ?_; (case hC => rw [show nums8 [cb] = [(c8 : Int)] by rw [← HC8.out]; rfl]; exact Txt.byte (heap_alloc_last wr _)); intro v6 w6 h6 b6; have H6 := Lib.hid h6; have B6 := Lib.hid b6; clear h6 b6))
        go_roundw
        case rel =>
         have hbb := ((Below.refl (Bb + 1) wr).alloc HLr.out (.cells #[.int .u8 (c8 : Int)] 5)).trans B6.out
         exact ⟨i + 1, by omega, by go_num, by rw [HPS.out, mapE_snoc, HBE.out, ← List.append_assoc]; exact H6.out, turn_of HTr.out hbb HSz.out, (hbb.block Bb (Nat.lt_succ_self _)).trans HRr.out⟩
        case measure => simp [intOf]; omega
      ·obtain rfl : i = nn := by omega
       have hge2 : ¬ ((i : Nat) : Int) < i := by omega
       have hmap : mapE d (P.take i) = mapB d m := by
        have := map_ref HD.out HMX.out.1 HMX.out.2
        rw [HEP.out, HNN.out.1] at this
        exact this
       have htx := HXr.out
       rw [hmap] at htx
       have HX0 := Lib.hid htx
       have HL0 := Lib.hid (show (headM d ver ty ++ mapB d m).length ≤ 2000 by have := HML.out; rw [hmap] at this; exact this)
       clear hmap htx HXr HML HRr HRY HTX HTY
       go_wp2_with fail
       go_loopw [14, 11] (fun iv bv wz => ∃ k : Nat, k ≤ F.length ∧ iv = .int .i64 k ∧ Txt wz (Bb + 1) bv (headM d ver ty ++ mapB d m ++ bodyM d O (F.take k)) ∧ Turn [Bb] w2 wz) (fun iv _ _ => F.length - (intOf iv).toNat)
       case atStart => exact ⟨0, Nat.zero_le _, rfl, by rw [List.take_zero]; show Txt wr (Bb + 1) _ (headM d ver ty ++ mapB d m ++ []); rw [List.append_nil]; exact HX0.out, HTr.out⟩
       case round =>
        obtain ⟨wz, rfl⟩ : ∃ W, W = wr := ⟨_, rfl⟩
        obtain ⟨k, hk, rfl, htx, ht⟩ := hrel
        have hb1 : Below w1.heap.size w1 wz := HB12.out.trans (ht.below (by rw [HEB.out, HSz.out]; omega) (by rw [HEB.out]; simp))
        have HFz := Lib.hid (HF1.out.below hb1)
        have HMz := Lib.hid (MsgIn.turn K2.out ht (by have := HBB.out; omega))
        have HTz := Lib.hid ht
        have HXz := Lib.hid htx
        have HLz := Lib.hid (show Bb + 1 ≤ wz.heap.size by have := ht.size; rw [HSz.out] at this; exact this)
        clear ht htx hb1
        obtain ⟨m0, m1⟩ := HMz.out
        by_cases hlt2 : k < F.length
        ·have hlt3 : (k : Int) < F.length := by omega
         obtain ⟨fb, fo, rfl, q0, q1⟩ := HFz.out.get k hlt2
         obtain ⟨⟨fn, fs⟩, ef⟩ : ∃ x, F[k] = x := ⟨_, rfl⟩
         rw [ef] at q0 q1
         have hx := HOK.out F[k] (List.getElem_mem hlt2)
         have hsz := HS.out F[k] (List.getElem_mem hlt2)
         rw [ef] at hx hsz
         have hs200 := ok_small hx
         obtain ⟨⟨k0, s0, hf, hck⟩, _⟩ := hx
         obtain ⟨k1, s1, hf1, hck1⟩ := put_ok HCOD.out.1 HCOD.out.2.2 hf hck
         obtain ⟨cs, ecs⟩ : ∃ s, cutT O (fn, fs) = s := ⟨_, rfl⟩
         have hpf : bodyM d O (F.take (k + 1)) = bodyM d O (F.take k) ++ putBytes k1 d cs.data.toList := by
          rw [List.take_succ_eq_append_getElem hlt2, ef]
          have : bodyM d O [(fn, fs)] = putBytes k1 d cs.data.toList := by
           show putF d O (fn, fs) ++ [] = _
           rw [List.append_nil, putF_of hf1, ecs]
          rw [← this]
          unfold bodyM
          rw [List.flatMap_append]
         have hcs : cs.size ≤ 200 := by
          rw [← ecs]
          unfold cutT
          split
          ·rw [ByteArray.size_extract]; simp only at hs200 ⊢; omega
          ·exact hs200
         have hbl : (bodyM d O (F.take k)).length ≤ 1000 * 24 := by
          have := body_len HCOD.out.1 HCOD.out.2.2 (F := F.take k) (fun x hx => HOK.out x (List.mem_of_mem_take hx))
          have h2 : (F.take k).length ≤ 24 := by rw [List.length_take]; omega
          omega
         rw [ecs] at hck1
         have HFW := Lib.hid (fun W => form_w (w := W) HD.out HO.out hf1)
         have HPT := Lib.hid (fun (W : World) (v : Value) (hW : Txt W (Bb + 1) v (headM d ver ty ++ mapB d m ++ bodyM d O (F.take k))) (hlo : Bb + 1 ≤ W.heap.size) => refput_txt hW hlo k1 s1 d cs (by omega) (by have := HL0.out; rw [List.length_append]; omega) hck1)
         have HPF := Lib.hid hpf
         have HECS := Lib.hid ecs
         have HSZ2 := Lib.hid (show fn = 4 → 2 ≤ fs.size from fun h4 => by
          simp only at hf hck
          rw [h4, form4] at hf
          simp only [Option.some.injEq, Prod.mk.injEq] at hf
          obtain ⟨rfl, rfl⟩ := hf
          have h1 := (ofB_all (show ofB fs.data.toList tenL (12 - 0) = true from checkR_right hck)).2
          have h2 : fs.data.toList.length = fs.size := by simp
          omega)
         clear hf hck hf1 hck1 ecs hpf hsz hs200 hcs hbl
         go_wp2_with fail
         refine (HFW.out _).mono ?_
         rintro e wf ⟨rfl, b1⟩
         obtain ⟨wg, eg⟩ : ∃ W, wf.alloc (.cells #[.int .i64 k1, .int .i64 s1, .int .i64 d] 46) = W := ⟨_, rfl⟩
         have b2 : Below wf.heap.size wf wg := by rw [← eg]; exact alloc_below _ _
         have b12 := b1.trans (b2.mono b1.size)
         have kf : wg.heap[wf.heap.size]? = some (.cells #[.int .i64 k1, .int .i64 s1, .int .i64 d] 46 (0, 0)) := by rw [← eg]; exact heap_alloc_last _ _
         have x0 := cells_at kf 0
         have x1 := cells_at kf 1
         have x2 := cells_at kf 2
         replace q0 := b12.keptCell q0
         replace q1 := b12.keptCell q1
         replace m0 := b12.keptCell m0
         replace m1 := b12.keptCell m1
         have HXg := Lib.hid (HXz.out.below b12)
         have HB12g := Lib.hid b12
         clear b1 b2 b12 kf
         subst eg
         have HEND := Lib.hid (fun (we : World) (v : Value) (ht : Txt we (Bb + 1) v (headM d ver ty ++ mapB d m ++ bodyM d O (F.take k) ++ putBytes k1 d cs.data.toList)) (hb : Below (wf.alloc (.cells #[.int .i64 k1, .int .i64 s1, .int .i64 d] 46)).heap.size (wf.alloc (.cells #[.int .i64 k1, .int .i64 s1, .int .i64 d] 46)) we) =>
          show Txt we (Bb + 1) v (headM d ver ty ++ mapB d m ++ bodyM d O (F.take (k + 1))) ∧ Turn [Bb] w2 we from ⟨by rw [HPF.out, ← List.append_assoc]; exact ht, HTz.out.trans (Turn.of_below (HB12g.out.trans (hb.mono HB12g.out.size)))⟩)
         by_cases e3 : d = 3
         ·by_cases e4 : fn = 4
          ·subst e3 e4
           have h2 := HSZ2.out rfl
           have h2' : (2 : Int) ≤ fs.size := by omega
           have hcx : fs.extract 2 fs.size = cs := by
            have h1 := HECS.out
            have h4 := HO3.out
            rw [if_pos rfl] at h4
            subst h4
            exact h1
           go_wp2_with fail
           refine (HPT.out _ _ HXg.out (Nat.le_trans HLz.out HB12g.out.size)).mono ?_
           rintro e we ⟨v', rfl, hv, b3⟩
           have HE := Lib.hid (HEND.out we v' hv b3)
           clear hv b3
           go_wp2_with fail
           go_roundw
           case rel => exact ⟨k + 1, by omega, by go_num, HE.out.1, HE.out.2⟩
           case measure => simp [intOf]; omega
          ·have e4' : (fn == 4) = false := by simpa using e4
           subst e3
           have hcx : cs = fs := by rw [← HECS.out]; unfold cutT; rw [if_neg e4]
           subst hcx
           clear e4
           go_wp2_with fail
           refine (HPT.out _ _ HXg.out (Nat.le_trans HLz.out HB12g.out.size)).mono ?_
           rintro e we ⟨v', rfl, hv, b3⟩
           have HE := Lib.hid (HEND.out we v' hv b3)
           clear hv b3
           go_wp2_with fail
           go_roundw
           case rel => exact ⟨k + 1, by omega, by go_num, HE.out.1, HE.out.2⟩
           case measure => simp [intOf]; omega
         ·have e3' : (d == 3) = false := by simpa using e3
          have hcx : cs = fs := by
           have h4 := HO3.out
           rw [if_neg e3] at h4
           rw [← HECS.out, h4]
           unfold cutT
           split
           ·exact arr_list (by simp)
           ·rfl
          subst hcx
          clear e3
          go_wp2_with fail
          refine (HPT.out _ _ HXg.out (Nat.le_trans HLz.out HB12g.out.size)).mono ?_
          rintro e we ⟨v', rfl, hv, b3⟩
          have HE := Lib.hid (HEND.out we v' hv b3)
          clear hv b3
          go_wp2_with fail
          go_roundw
          case rel => exact ⟨k + 1, by omega, by go_num, HE.out.1, HE.out.2⟩
          case measure => simp [intOf]; omega
        ·obtain rfl : k = F.length := by omega
         have hge3 : ¬ ((F.length : Nat) : Int) < F.length := by omega
         have hfin := HXz.out
         rw [List.take_length] at hfin
         have HFIN := Lib.hid hfin
         have HBF := Lib.hid (HB2.out.trans (HTz.out.below HB2.out.size (by have := HBB.out; simpa using Nat.le_of_lt this)))
         clear hfin
         go_wp2_with fail
         go_ret2
         exact ⟨_, by rw [HRes.out]; rfl, by rw [HRes.out]; exact HFIN.out.of_lower (by have := HBB.out; omega), HBF.out⟩
end Go.Proofs.YtommklkihjmgcaaGreatDoor.msgr
namespace Go.Proofs.YtommklkihjmgcaaGreatDoor.msgr
open Go.RowKit Go.Proofs.YtommklkihjmgcaaGreatDoorW.PrintWords Go.Proofs.YtommklkihjmgcaaGreatDoor.fieldp Go.Proofs.YtommklkihjmgcaaGreatDoor.fieldw Go.Proofs.YtommklkihjmgcaaGreatDoor.fieldl Go.Proofs.YtommklkihjmgcaaGreatDoor.msgp Go.Proofs.YtommklkihjmgcaaGreatDoor.msgw Go.Proofs.YtommklkihjmgcaaGreatDoor.buf
theorem refenc_any {w : World} {v : Value} {F : Flds} (h : FsAt w v F) (hS : ∀ x ∈ F, x.2.size ≤ 1048576) (d ty : Int) :
  Calls Tryz.prog 21 #[.int .i64 d, .agg #[.int .i64 ty, v]] w fun e w' => ∃ bv, e = .returned (.tuple #[bv, .int .i64 (encR d ty F).2]) ∧ Txt w' w.heap.size bv (encR d ty F).1 ∧ Below w.heap.size w w' := by
 by_cases hd : 1 ≤ d ∧ d ≤ 3
 ·cases hck : checkM ty F with
  | none => exact refenc_ok h hS d ty hd hck
  | some e =>
   have he : encE (dia d).2.2 ty F = some e := by unfold encE; rw [hck]
   have hn := encE_ne he
   refine (refenc_bad h hS d ty (erN e) (.inr ⟨hd, hn, by rw [hck]; rfl⟩)).mono ?_
   rintro e' w' ⟨rfl, hb⟩
   have hR : encR d ty F = ([], erN e) := by
    unfold encR encB
    rw [if_pos hd, he]
    rfl
   rw [hR]
   exact ⟨_, rfl, Txt.nil _ _, hb⟩
 ·refine (refenc_bad h hS d ty 50 (.inl ⟨hd, rfl⟩)).mono ?_
  rintro e' w' ⟨rfl, hb⟩
  have hR : encR d ty F = ([], 50) := by unfold encR; rw [if_neg hd]
  rw [hR]
  exact ⟨_, rfl, Txt.nil _ _, hb⟩
theorem refenc_w {w : World} {v : Value} {F : Flds} (h : FsAt w v F) (hS : ∀ x ∈ F, x.2.size ≤ 1048576) (d ty : Int) {l : List UInt8} {n : Int} (hl : (encR d ty F).1 = l) (hn : (encR d ty F).2 = n) :
  Calls Tryz.prog 21 #[.int .i64 d, .agg #[.int .i64 ty, v]] w fun e w' => ∃ A c, e = .returned (.tuple #[.slice A l.length c, .int .i64 n]) ∧ Txt w' w.heap.size (.slice A l.length c) l ∧ Below w.heap.size w w' :=
 (refenc_any h hS d ty).mono fun e w' h => by
  obtain ⟨bv, rfl, h2, h3⟩ := h
  rw [hl] at h2
  obtain ⟨A, c, rfl, _, _⟩ := h2.reads
  exact ⟨A, c, by rw [hn], h2, h3⟩
end Go.Proofs.YtommklkihjmgcaaGreatDoor.msgr
