/- Layer 20: the reference's Read and Answer, in plain words. Conditions: as each theorem says. -/
import Derived.Test.YtjndfmpicnkplaaGreatDoorRefsReconAnswers
import Derived.Test.YtjndfmpicnkplaaGreatDoorRecO
namespace Go.Proofs.YtjndfmpicnkplaaGreatDoor.PureReconAnswers
open Go.RowKit Go.Proofs.YtjndfmpicnkplaaGreatDoorW.PrintWords Go.Proofs.YtjndfmpicnkplaaGreatDoorW.PrintLast Go.Proofs.YtjndfmpicnkplaaGreatDoor.PReconAnswers Go.Proofs.YtjndfmpicnkplaaGreatDoor.fieldp Go.Proofs.YtjndfmpicnkplaaGreatDoor.fieldw Go.Proofs.YtjndfmpicnkplaaGreatDoor.fieldl Go.Proofs.YtjndfmpicnkplaaGreatDoor.msgp Go.Proofs.YtjndfmpicnkplaaGreatDoor.msgw
theorem ref_value {c : UInt8} (h : inRow tenL c = true) : groatref04_value.f (c.toNat : Int) = some ((c.toNat : Int) - 48) := by
  unfold groatref04_value.f
  rw [ref_digit, h]
  simp only [Option.bind_some, if_true]
  rw [row_ten] at h
  have h2 : 48 ≤ (c.toNat : Int) ∧ (c.toNat : Int) ≤ 57 := of_decide_eq_true h
  congr 1
  omega
theorem amount_loop (x : ByteArray) (hx : x.size ≤ 18) (ha : x.data.toList.all (inRow tenL) = true) : ∀ (d k : Nat) (i : Int), 0 ≤ i → (x.size : Int) - i = d → d < k →
    groatref04_Amount.l0 k x (numL (x.data.toList.take i.toNat)) i = some (numL x.data.toList, 0)
  | 0, k, i, h0, hd, hk => by
    obtain ⟨k, rfl⟩ : ∃ m, k = m + 1 := ⟨k - 1, by omega⟩
    rw [groatref04_Amount.l0, if_neg (by omega), List.take_of_length_le (by rw [size_list]; omega)]
  | d + 1, k, i, h0, hd, hk => by
    obtain ⟨k, rfl⟩ : ∃ m, k = m + 1 := ⟨k - 1, by omega⟩
    have hlt : i < (x.size : Int) := by omega
    obtain ⟨ch, hc, hb⟩ := drop_bt x i h0 hlt
    have hmem : ch ∈ x.data.toList := List.mem_of_mem_drop (i := i.toNat) (by rw [hc]; simp)
    have hin := List.all_eq_true.1 ha ch hmem
    have hsn : x.data.toList.take (i + 1).toNat = x.data.toList.take i.toNat ++ [ch] := by
      have h1 : x.data.toList = x.data.toList.take i.toNat ++ x.data.toList.drop i.toNat := (List.take_append_drop _ _).symm
      have hlen : (x.data.toList.take i.toNat).length = i.toNat := by rw [List.length_take, size_list]; omega
      have h2 : x.data.toList.take (i.toNat + 1) = (x.data.toList.take i.toNat ++ x.data.toList.drop i.toNat).take (i.toNat + 1) := by rw [List.take_append_drop]
      rw [show (i + 1).toNat = i.toNat + 1 by omega, h2, hc, List.take_append, hlen, List.take_of_length_le (by omega)]
      simp
    have hr := numL_range i.toNat (x.data.toList.take i.toNat) (by rw [List.length_take, size_list]; omega) (fun c hc => row_dig (List.all_eq_true.1 ha c (List.mem_of_mem_take hc)))
    have hp : (10 : Int) ^ i.toNat ≤ 10 ^ 17 := by
      have : (10 : Nat) ^ i.toNat ≤ 10 ^ 17 := Nat.pow_le_pow_right (by decide) (by omega)
      exact_mod_cast this
    have hdg := row_dig hin
    unfold isDig at hdg
    rw [groatref04_Amount.l0, if_pos hlt, if_pos h0, hb, ref_value hin]
    simp only [Option.bind_some]
    rw [show wrap64 (i + 1) = i + 1 from IntWalk.wrap64_in _ ⟨by omega, by omega⟩, show wrap64 (10 * numL (x.data.toList.take i.toNat)) = 10 * numL (x.data.toList.take i.toNat) from IntWalk.wrap64_in _ ⟨by omega, by omega⟩,
      show wrap64 (10 * numL (x.data.toList.take i.toNat) + ((ch.toNat : Int) - 48)) = 10 * numL (x.data.toList.take i.toNat) + ((ch.toNat : Int) - 48) from IntWalk.wrap64_in _ ⟨by omega, by omega⟩, ← numL_snoc, ← hsn]
    exact amount_loop x hx ha d k (i + 1) (by omega) (by omega) (by omega)
theorem ref_amount (x : ByteArray) (hx : x.size ≤ 1048577) (k : Nat) (hk : x.size + 30 < k) : groatref04_Amount.f k x = some (amountR x.data.toList) := by
  obtain ⟨k, rfl⟩ : ∃ m, k = m + 1 := ⟨k - 1, by omega⟩
  unfold groatref04_Amount.f amountR
  by_cases h0 : (x.size : Int) < 1
  · rw [if_pos h0, groatref04_Amount.j0, if_pos rfl, if_neg]
    rintro ⟨h, _⟩
    exact h (List.eq_nil_of_length_eq_zero (by rw [size_list]; omega))
  · rw [if_neg h0]
    have hne : x.data.toList ≠ [] := by
      intro e
      have := size_list x
      rw [e] at this
      simp at this
      omega
    by_cases h1 : (x.size : Int) > 18
    · rw [if_pos h1, groatref04_Amount.j0, if_pos rfl, if_neg]
      rintro ⟨_, h, _⟩
      rw [size_list] at h
      omega
    · rw [if_neg h1, ref_all x hx _ (by omega)]
      simp only [Option.bind_some]
      cases ha : x.data.toList.all (inRow tenL) with
      | false =>
        rw [Bool.not_false, groatref04_Amount.j0, if_pos rfl, if_neg]
        rintro ⟨_, _, h⟩
        cases h
      | true =>
        rw [Bool.not_true, groatref04_Amount.j0, if_neg (by simp), if_pos ⟨hne, by rw [size_list]; omega, rfl⟩]
        exact amount_loop x (by omega) ha x.size k 0 (by decide) (by omega) (by omega)

def unS (x : Fld) : S43 := ⟨x.1, x.2⟩
theorem fld_un (F : Flds) : (F.map unS).map fldS = F := by
  rw [List.map_map]
  exact List.map_id _
theorem ref_get_loop (l : List S43) (hl : l.length ≤ 1048576) (ty no : Int) : ∀ (d k i : Nat), i + d = l.length → d < k →
    groatref05_Get.l0 k no i ty l = some ((getM ((l.map fldS).drop i) no).getD ⟨#[]⟩, (getM ((l.map fldS).drop i) no).isSome)
  | 0, k, i, hd, hk => by
    obtain ⟨k, rfl⟩ : ∃ m, k = m + 1 := ⟨k - 1, by omega⟩
    rw [groatref05_Get.l0, if_neg (by omega), List.drop_eq_nil_of_le (by simp; omega)]
    rfl
  | d + 1, k, i, hd, hk => by
    obtain ⟨k, rfl⟩ : ∃ m, k = m + 1 := ⟨k - 1, by omega⟩
    have hi : i < l.length := by omega
    have hi2 : i < (l.map fldS).length := by simpa using hi
    rw [groatref05_Get.l0, if_pos (by omega), if_pos (by omega), rd_at l i hi, getM_step _ no i hi2]
    have hx : (l.map fldS)[i] = (l[i].f0, l[i].f1) := by simp [fldS]
    rw [hx]
    by_cases h : l[i].f0 = no
    · rw [if_pos h, if_pos h]
      rfl
    · rw [if_neg h, if_neg h, show wrap64 ((i : Int) + 1) = ((i + 1 : Nat) : Int) from by rw [IntWalk.wrap64_in _ ⟨by omega, by omega⟩]; rfl]
      exact ref_get_loop l hl ty no d k (i + 1) (by omega) (by omega)
theorem ref_get (l : List S43) (hl : l.length ≤ 1048576) (ty no : Int) (k : Nat) (hk : 1048600 < k) : groatref05_Get.f k ty l no = some ((getM (l.map fldS) no).getD ⟨#[]⟩, (getM (l.map fldS) no).isSome) :=
  ref_get_loop l hl ty no l.length k 0 (by omega) (by omega)
/-- What the reference's Read answers. -/
def readT (r : List Int × Int) : Int × Int × Int × Int × Int × Int × Int := (0, r.1.getD 0 0, r.1.getD 1 0, r.1.getD 2 0, r.1.getD 3 0, r.1.getD 4 0, r.2)
theorem ref_read1 (s0 s1 s2 s3 s4 s5 s6 s7 : ByteArray) (g3 : s3.size ≤ 1048577) (g4 : s4.size ≤ 1048577) (g5 : s5.size ≤ 1048577) (g6 : s6.size ≤ 1048577) (g7 : s7.size ≤ 1048577) (F : Flds) (hF : copyM F readNos [] = [(7, s0), (11, s1), (32, s2), (74, s3), (76, s4), (86, s5), (88, s6), (97, s7)]) (k : Nat) (hk : 1048700 < k) :
    groatref20_Read.l1 k [7, 11, 32, 74, 76, 86, 88, 97] [s0, s1, s2, s3, s4, s5, s6, s7] [] 3 0 0 0 0 0 0 = some (readT (readR 500 F)) := by
  obtain ⟨k, rfl⟩ : ∃ m, k = m + 6 := ⟨k - 6, by omega⟩
  have l8 : ∀ (a b c d e f g h : Int), (([a, b, c, d, e, f, g, h] : List Int).length : Int) = 8 := fun _ _ _ _ _ _ _ _ => rfl
  have b8 : ∀ (a b c d e f g h : ByteArray), (([a, b, c, d, e, f, g, h] : List ByteArray).length : Int) = 8 := fun _ _ _ _ _ _ _ _ => rfl
  have hR : readR 500 F = match readL [(7, s0), (11, s1), (32, s2), (74, s3), (76, s4), (86, s5), (88, s6), (97, s7)] tail5 with
      | none => ([0, 0, 0, 0, 0], 41)
      | some l => (l, 0) := by
    unfold readR
    rw [if_neg (by decide), hF, if_neg (by simp)]
    all_goals rfl
  have hL : readL [(7, s0), (11, s1), (32, s2), (74, s3), (76, s4), (86, s5), (88, s6), (97, s7)] tail5 =
      if checkR 1 10 1 s3.data.toList = 0 then (if checkR 1 10 1 s4.data.toList = 0 then (if checkR 1 16 1 s5.data.toList = 0 then (if checkR 1 16 1 s6.data.toList = 0 then (if checkR 5 16 1 s7.data.toList = 0 then some [msgw.valOf 10 s3, msgw.valOf 10 s4, msgw.valOf 16 s5, msgw.valOf 16 s6, msgw.valOf 16 s7] else none) else none) else none) else none) else none := by
    have m3 : getM [(7, s0), (11, s1), (32, s2), (74, s3), (76, s4), (86, s5), (88, s6), (97, s7)] 74 = some s3 := by kernel_rfl
    have m4 : getM [(7, s0), (11, s1), (32, s2), (74, s3), (76, s4), (86, s5), (88, s6), (97, s7)] 76 = some s4 := by kernel_rfl
    have m5 : getM [(7, s0), (11, s1), (32, s2), (74, s3), (76, s4), (86, s5), (88, s6), (97, s7)] 86 = some s5 := by kernel_rfl
    have m6 : getM [(7, s0), (11, s1), (32, s2), (74, s3), (76, s4), (86, s5), (88, s6), (97, s7)] 88 = some s6 := by kernel_rfl
    have m7 : getM [(7, s0), (11, s1), (32, s2), (74, s3), (76, s4), (86, s5), (88, s6), (97, s7)] 97 = some s7 := by kernel_rfl
    unfold tail5
    simp only [readL, m3, m4, m5, m6, m7, Option.getD_some]
    split
    · split
      · split
        · split
          · split
            · rfl
            · rfl
          · rfl
        · rfl
      · rfl
    · rfl
  rw [hR, hL]
  clear hR hL
  rw [groatref20_Read.l1, if_pos (by decide), if_pos (by decide), if_pos (by rw [l8]; decide), show rd [7, 11, 32, 74, 76, 86, 88, 97] 3 = 74 from rfl, ref_form1 74 _ (by omega), show formF 74 0 = some (1, 10) from rfl, Option.bind_some]
  dsimp only
  rw [if_pos (by rw [b8]; decide), show rdOf ByteArray.empty [s0, s1, s2, s3, s4, s5, s6, s7] 3 = s3 from rfl, ref_check 1 10 1 s3 g3 _ (by omega), Option.bind_some]
  refine Decidable.byCases (p := checkR 1 10 1 s3.data.toList = 0) (fun c3 => ?_) (fun c3 => by rw [if_neg c3, if_neg c3]; rfl)
  rw [if_pos c3, if_pos c3]
  rw [if_neg (by decide), ref_amount s3 g3 _ (by omega), Option.bind_some, if_pos (by simp), show wrap64 (3 + 1) = 4 from IntWalk.wrap64_in (3 + 1) ⟨by decide, by decide⟩]
  rw [groatref20_Read.l1, if_pos (by decide), if_pos (by decide), if_pos (by rw [l8]; decide), show rd [7, 11, 32, 74, 76, 86, 88, 97] 4 = 76 from rfl, ref_form1 76 _ (by omega), show formF 76 0 = some (1, 10) from rfl, Option.bind_some]
  dsimp only
  rw [if_pos (by rw [b8]; decide), show rdOf ByteArray.empty [s0, s1, s2, s3, s4, s5, s6, s7] 4 = s4 from rfl, ref_check 1 10 1 s4 g4 _ (by omega), Option.bind_some]
  refine Decidable.byCases (p := checkR 1 10 1 s4.data.toList = 0) (fun c4 => ?_) (fun c4 => by rw [if_neg c4, if_neg c4]; rfl)
  rw [if_pos c4, if_pos c4]
  rw [if_neg (by decide), ref_amount s4 g4 _ (by omega), Option.bind_some, if_pos (by simp), show wrap64 (4 + 1) = 5 from IntWalk.wrap64_in (4 + 1) ⟨by decide, by decide⟩]
  rw [groatref20_Read.l1, if_pos (by decide), if_pos (by decide), if_pos (by rw [l8]; decide), show rd [7, 11, 32, 74, 76, 86, 88, 97] 5 = 86 from rfl, ref_form1 86 _ (by omega), show formF 86 0 = some (1, 16) from rfl, Option.bind_some]
  dsimp only
  rw [if_pos (by rw [b8]; decide), show rdOf ByteArray.empty [s0, s1, s2, s3, s4, s5, s6, s7] 5 = s5 from rfl, ref_check 1 16 1 s5 g5 _ (by omega), Option.bind_some]
  refine Decidable.byCases (p := checkR 1 16 1 s5.data.toList = 0) (fun c5 => ?_) (fun c5 => by rw [if_neg c5, if_neg c5]; rfl)
  rw [if_pos c5, if_pos c5]
  rw [if_neg (by decide), ref_amount s5 g5 _ (by omega), Option.bind_some, if_pos (by simp), show wrap64 (5 + 1) = 6 from IntWalk.wrap64_in (5 + 1) ⟨by decide, by decide⟩]
  rw [groatref20_Read.l1, if_pos (by decide), if_pos (by decide), if_pos (by rw [l8]; decide), show rd [7, 11, 32, 74, 76, 86, 88, 97] 6 = 88 from rfl, ref_form1 88 _ (by omega), show formF 88 0 = some (1, 16) from rfl, Option.bind_some]
  dsimp only
  rw [if_pos (by rw [b8]; decide), show rdOf ByteArray.empty [s0, s1, s2, s3, s4, s5, s6, s7] 6 = s6 from rfl, ref_check 1 16 1 s6 g6 _ (by omega), Option.bind_some]
  refine Decidable.byCases (p := checkR 1 16 1 s6.data.toList = 0) (fun c6 => ?_) (fun c6 => by rw [if_neg c6, if_neg c6]; rfl)
  rw [if_pos c6, if_pos c6]
  rw [if_neg (by decide), ref_amount s6 g6 _ (by omega), Option.bind_some, if_pos (by simp), show wrap64 (6 + 1) = 7 from IntWalk.wrap64_in (6 + 1) ⟨by decide, by decide⟩]
  rw [groatref20_Read.l1, if_pos (by decide), if_pos (by decide), if_pos (by rw [l8]; decide), show rd [7, 11, 32, 74, 76, 86, 88, 97] 7 = 97 from rfl, ref_form1 97 _ (by omega), show formF 97 0 = some (5, 16) from rfl, Option.bind_some]
  dsimp only
  rw [if_pos (by rw [b8]; decide), show rdOf ByteArray.empty [s0, s1, s2, s3, s4, s5, s6, s7] 7 = s7 from rfl, ref_check 5 16 1 s7 g7 _ (by omega), Option.bind_some]
  refine Decidable.byCases (p := checkR 5 16 1 s7.data.toList = 0) (fun c7 => ?_) (fun c7 => by rw [if_neg c7, if_neg c7]; rfl)
  rw [if_pos c7, if_pos c7]
  obtain ⟨h17, hv⟩ := valOf_x c7
  have he : (s7.extract 1 s7.size).size ≤ 1048577 := by rw [ByteArray.size_extract]; omega
  rw [if_pos rfl, if_pos (by omega), ref_amount _ he _ (by omega), Option.bind_some, if_pos (by omega), show wrap64 (7 + 1) = 8 from IntWalk.wrap64_in (7 + 1) ⟨by decide, by decide⟩]
  have e3 := valOf_dig (by decide) c3
  have e4 := valOf_dig (by decide) c4
  have e5 := valOf_dig (by decide) c5
  have e6 := valOf_dig (by decide) c6
  rw [e3, e4, e5, e6, hv]
  by_cases hb : bt s7 0 = 68
  · rw [if_pos hb, if_pos hb, if_pos (by simp), groatref20_Read.l1, if_neg (by decide), if_pos (by simp), if_pos (by simp), if_pos (by simp), if_pos (by simp), if_pos (by simp)]
    rfl
  · rw [if_neg hb, if_neg hb, if_pos (by simp), groatref20_Read.l1, if_neg (by decide), if_pos (by simp), if_pos (by simp), if_pos (by simp), if_pos (by simp), if_pos (by simp)]
    rfl
theorem ref_read (l : List S43) (hl : l.length ≤ 1048576) (hS : ∀ x ∈ l, x.f1.size ≤ 1048577) (ty : Int) (k : Nat) (hk : 1050000 < k) : groatref20_Read.f k ty l = some (readT (readR ty (l.map fldS))) := by
  refine Decidable.byCases (p := ty = 500) (fun ht => ?_) (fun ht => by unfold groatref20_Read.f readR; rw [if_neg ht, if_pos ht]; rfl)
  subst ht
  obtain ⟨k, rfl⟩ : ∃ m, k = m + 9 := ⟨k - 9, by omega⟩
  obtain ⟨F, eF⟩ : ∃ F, l.map fldS = F := ⟨_, rfl⟩
  have hsz : ∀ no s, getM F no = some s → s.size ≤ 1048577 := fun no s h => by
    rw [← eF] at h
    unfold getM at h
    obtain ⟨x, hx, rfl⟩ := Option.map_eq_some_iff.1 h
    obtain ⟨y, hy, rfl⟩ := List.mem_map.1 (List.mem_of_find?_eq_some hx)
    exact hS y hy
  have hcs := copyM_sel F readNos [] (by decide) (fun x hx => by cases hx)
  rw [List.nil_append] at hcs
  have l8 : ∀ (a b c d e f g h : Int), (([a, b, c, d, e, f, g, h] : List Int).length : Int) = 8 := fun _ _ _ _ _ _ _ _ => rfl
  unfold groatref20_Read.f
  rw [if_pos rfl, eF]
  rw [groatref20_Read.l0, if_pos (by rw [l8]; decide), if_pos (by decide), show rd [7, 11, 32, 74, 76, 86, 88, 97] 0 = 7 from rfl, ref_get l hl 500 7 _ (by omega), eF, Option.bind_some]
  cases e0 : getM F 7 with
  | none =>
    rw [if_neg (by simp), read_miss F (by decide) e0]
    rfl
  | some s0 =>
  rw [if_pos (by rfl), if_pos (by simp), show wrap64 (0 + 1) = 1 from IntWalk.wrap64_in (0 + 1) ⟨by decide, by decide⟩]
  rw [groatref20_Read.l0, if_pos (by rw [l8]; decide), if_pos (by decide), show rd [7, 11, 32, 74, 76, 86, 88, 97] 1 = 11 from rfl, ref_get l hl 500 11 _ (by omega), eF, Option.bind_some]
  cases e1 : getM F 11 with
  | none =>
    rw [if_neg (by simp), read_miss F (by decide) e1]
    rfl
  | some s1 =>
  rw [if_pos (by rfl), if_pos (by simp), show wrap64 (1 + 1) = 2 from IntWalk.wrap64_in (1 + 1) ⟨by decide, by decide⟩]
  rw [groatref20_Read.l0, if_pos (by rw [l8]; decide), if_pos (by decide), show rd [7, 11, 32, 74, 76, 86, 88, 97] 2 = 32 from rfl, ref_get l hl 500 32 _ (by omega), eF, Option.bind_some]
  cases e2 : getM F 32 with
  | none =>
    rw [if_neg (by simp), read_miss F (by decide) e2]
    rfl
  | some s2 =>
  rw [if_pos (by rfl), if_pos (by simp), show wrap64 (2 + 1) = 3 from IntWalk.wrap64_in (2 + 1) ⟨by decide, by decide⟩]
  rw [groatref20_Read.l0, if_pos (by rw [l8]; decide), if_pos (by decide), show rd [7, 11, 32, 74, 76, 86, 88, 97] 3 = 74 from rfl, ref_get l hl 500 74 _ (by omega), eF, Option.bind_some]
  cases e3 : getM F 74 with
  | none =>
    rw [if_neg (by simp), read_miss F (by decide) e3]
    rfl
  | some s3 =>
  rw [if_pos (by rfl), if_pos (by simp), show wrap64 (3 + 1) = 4 from IntWalk.wrap64_in (3 + 1) ⟨by decide, by decide⟩]
  rw [groatref20_Read.l0, if_pos (by rw [l8]; decide), if_pos (by decide), show rd [7, 11, 32, 74, 76, 86, 88, 97] 4 = 76 from rfl, ref_get l hl 500 76 _ (by omega), eF, Option.bind_some]
  cases e4 : getM F 76 with
  | none =>
    rw [if_neg (by simp), read_miss F (by decide) e4]
    rfl
  | some s4 =>
  rw [if_pos (by rfl), if_pos (by simp), show wrap64 (4 + 1) = 5 from IntWalk.wrap64_in (4 + 1) ⟨by decide, by decide⟩]
  rw [groatref20_Read.l0, if_pos (by rw [l8]; decide), if_pos (by decide), show rd [7, 11, 32, 74, 76, 86, 88, 97] 5 = 86 from rfl, ref_get l hl 500 86 _ (by omega), eF, Option.bind_some]
  cases e5 : getM F 86 with
  | none =>
    rw [if_neg (by simp), read_miss F (by decide) e5]
    rfl
  | some s5 =>
  rw [if_pos (by rfl), if_pos (by simp), show wrap64 (5 + 1) = 6 from IntWalk.wrap64_in (5 + 1) ⟨by decide, by decide⟩]
  rw [groatref20_Read.l0, if_pos (by rw [l8]; decide), if_pos (by decide), show rd [7, 11, 32, 74, 76, 86, 88, 97] 6 = 88 from rfl, ref_get l hl 500 88 _ (by omega), eF, Option.bind_some]
  cases e6 : getM F 88 with
  | none =>
    rw [if_neg (by simp), read_miss F (by decide) e6]
    rfl
  | some s6 =>
  rw [if_pos (by rfl), if_pos (by simp), show wrap64 (6 + 1) = 7 from IntWalk.wrap64_in (6 + 1) ⟨by decide, by decide⟩]
  rw [groatref20_Read.l0, if_pos (by rw [l8]; decide), if_pos (by decide), show rd [7, 11, 32, 74, 76, 86, 88, 97] 7 = 97 from rfl, ref_get l hl 500 97 _ (by omega), eF, Option.bind_some]
  cases e7 : getM F 97 with
  | none =>
    rw [if_neg (by simp), read_miss F (by decide) e7]
    rfl
  | some s7 =>
  rw [if_pos (by rfl), if_pos (by simp), show wrap64 (7 + 1) = 8 from IntWalk.wrap64_in (7 + 1) ⟨by decide, by decide⟩]
  rw [groatref20_Read.l0, if_neg (by rw [l8]; decide)]
  exact ref_read1 s0 s1 s2 s3 s4 s5 s6 s7 (hsz _ _ e3) (hsz _ _ e4) (hsz _ _ e5) (hsz _ _ e6) (hsz _ _ e7) F (by rw [hcs]; simp [sel, readNos, e0, e1, e2, e3, e4, e5, e6, e7]) k (by omega)
def totS (x : S23) : Tot := (x.f0, x.f1, x.f2, x.f3, x.f4, x.f5)
theorem rd_tot (L : List S23) (i : Nat) (hi : i < L.length) : rd_T23 L (i : Int) = L[i] := by
  simp [rd_T23, List.getD_eq_getElem?_getD, hi]
theorem ref_ans_loop (m dn : Int) (L : List S23) (hL : L.length ≤ 1048576) (acc : List S43) (ha : acc.length ≤ 3) (z t0 t1 t2 t3 t4 : Int) : ∀ (d k i : Nat), i + d = L.length → d < k → (∀ j (hj : j < (L.map totS).length), j < i → (L.map totS)[j].1 ≠ m) →
    groatref20_Answer.l1 k m ⟨#[57, 53]⟩ i dn L 510 acc z t0 t1 t2 t3 t4 = some (510, acc ++ [⟨39, if balB (L.map totS) m (t0, t1, t2, t3, t4) then ⟨#[48, 48]⟩ else ⟨#[57, 53]⟩⟩])
  | 0, k, i, hd, hk, hno => by
    obtain ⟨k, rfl⟩ : ∃ n, k = n + 1 := ⟨k - 1, by omega⟩
    rw [groatref20_Answer.l1, if_neg (by omega), if_pos (by omega), bal_none _ (fun j hj => hno j hj (by rw [List.length_map] at hj; omega))]
    rfl
  | d + 1, k, i, hd, hk, hno => by
    obtain ⟨k, rfl⟩ : ∃ n, k = n + 1 := ⟨k - 1, by omega⟩
    have hi : i < L.length := by omega
    have hi2 : i < (L.map totS).length := by simpa using hi
    have hx : (L.map totS)[i] = totS L[i] := by simp
    rw [groatref20_Answer.l1, if_pos (by omega), if_pos (by omega), rd_tot L i hi]
    by_cases h : L[i].f0 = m
    · have hb : balB (L.map totS) m (t0, t1, t2, t3, t4) = decide ((totS L[i]).2 = (t0, t1, t2, t3, t4)) := by
        rw [bal_some _ hi2 (fun j hj hj2 => hno j hj hj2) (by rw [hx]; exact h), hx]
      rw [if_pos h, hb]
      by_cases h2 : (totS L[i]).2 = (t0, t1, t2, t3, t4)
      · have h3 := h2
        simp only [totS, Prod.mk.injEq] at h3
        obtain ⟨q1, q2, q3, q4, q5⟩ := h3
        rw [if_pos (by simp [h, q1, q2, q3, q4, q5]), if_pos (by omega), if_pos (by simpa using h2)]
      · have h3 := h2
        simp only [totS, Prod.mk.injEq] at h3
        rw [if_neg (by
          intro hc
          simp only [Bool.and_eq_true, beq_iff_eq] at hc
          exact h3 ⟨hc.2.1, hc.2.2.1, hc.2.2.2.1, hc.2.2.2.2.1, hc.2.2.2.2.2⟩), if_pos (by omega), if_neg (by simpa using h2)]
    · rw [if_neg h, show wrap64 ((i : Int) + 1) = ((i + 1 : Nat) : Int) from by rw [IntWalk.wrap64_in _ ⟨by omega, by omega⟩]; rfl]
      exact ref_ans_loop m dn L hL acc ha z t0 t1 t2 t3 t4 d k (i + 1) (by omega) (by omega) (fun j hj hj2 => by
        rcases Nat.lt_or_ge j i with h1 | h1
        · exact hno j hj h1
        · obtain rfl : j = i := by omega
          rw [hx]
          exact h)
theorem opt_step (F : Flds) (no : Int) (acc : List S43) (ha : acc.length ≤ 3) {β : Type} (f : List S43 → Option β) :
    ((some ((getM F no).getD ⟨#[]⟩, (getM F no).isSome) : Option (ByteArray × Bool)).bind fun b => if b.2 = true then (if acc.length < 5864062014805 then f (acc ++ [(⟨no, b.1⟩ : S43)]) else none) else f acc) = f (acc ++ (opt1 F no).map unS) := by
  rw [Option.bind_some]
  unfold opt1
  cases e : getM F no with
  | none => simp
  | some s =>
    rw [if_pos (by rfl), if_pos (by omega)]
    rfl
theorem opt1_len (F : Flds) (no : Int) : (opt1 F no).length ≤ 1 := by
  unfold opt1
  split <;> simp
theorem ref_answer (l : List S43) (hl : l.length ≤ 1048576) (hS : ∀ x ∈ l, x.f1.size ≤ 1048577) (ty m dn : Int) (L : List S23) (hL : L.length ≤ 1048576) (closed : Bool) (k : Nat) (hk : 2200000 < k) :
    groatref20_Answer.f k ty l m dn L closed = some (510, (answerM ty (l.map fldS) m closed (L.map totS)).map unS) := by
  obtain ⟨k, rfl⟩ : ∃ n, k = n + 4 := ⟨k - 4, by omega⟩
  obtain ⟨F, eF⟩ : ∃ F, l.map fldS = F := ⟨_, rfl⟩
  have n7 := opt1_len F 7
  have n11 := opt1_len F 11
  have n32 := opt1_len F 32
  have l3 : ∀ (a b c : Int), (([a, b, c] : List Int).length : Int) = 3 := fun _ _ _ => rfl
  unfold groatref20_Answer.f
  rw [groatref20_Answer.l0, if_pos (by rw [l3]; decide), if_pos (by decide), show rd [7, 11, 32] 0 = 7 from rfl, ref_get l hl ty 7 _ (by omega), eF, show wrap64 (0 + 1) = 1 from IntWalk.wrap64_in (0 + 1) ⟨by decide, by decide⟩]
  refine (opt_step F 7 [] (by simp) (fun a => groatref20_Answer.l0 (k + 3) m closed [7, 11, 32] 1 ty l dn L 510 a)).trans ?_
  try dsimp only
  rw [groatref20_Answer.l0, if_pos (by rw [l3]; decide), if_pos (by decide), show rd [7, 11, 32] 1 = 11 from rfl, ref_get l hl ty 11 _ (by omega), eF, show wrap64 (1 + 1) = 2 from IntWalk.wrap64_in (1 + 1) ⟨by decide, by decide⟩]
  refine (opt_step F 11 _ (by simp; omega) (fun a => groatref20_Answer.l0 (k + 2) m closed [7, 11, 32] 2 ty l dn L 510 a)).trans ?_
  try dsimp only
  rw [groatref20_Answer.l0, if_pos (by rw [l3]; decide), if_pos (by decide), show rd [7, 11, 32] 2 = 32 from rfl, ref_get l hl ty 32 _ (by omega), eF, show wrap64 (2 + 1) = 3 from IntWalk.wrap64_in (2 + 1) ⟨by decide, by decide⟩]
  refine (opt_step F 32 _ (by simp; omega) (fun a => groatref20_Answer.l0 (k + 1) m closed [7, 11, 32] 3 ty l dn L 510 a)).trans ?_
  try dsimp only
  rw [groatref20_Answer.l0, if_neg (by rw [l3]; decide), ref_read l hl hS ty _ (by omega), eF, Option.bind_some, answer_eq]
  obtain ⟨A, eA⟩ : ∃ A : List S43, [] ++ (opt1 F 7).map unS ++ (opt1 F 11).map unS ++ (opt1 F 32).map unS = A := ⟨_, rfl⟩
  have hA : A.length ≤ 3 := by rw [← eA]; simp; omega
  have hM : ∀ s, (opt1 F 7 ++ (opt1 F 11 ++ (opt1 F 32 ++ [(39, s)]))).map unS = A ++ [⟨39, s⟩] := fun s => by rw [← eA]; simp [unS]
  rw [eA, hM]
  have hlen := readR_len ty F
  obtain ⟨⟨vs, er⟩, eR⟩ : ∃ r, readR ty F = r := ⟨_, rfl⟩
  rw [eR] at hlen ⊢
  have hans : ansOf ty F m closed (L.map totS) = if er ≠ 0 then ⟨#[51, 48]⟩ else if closed && hitB (L.map totS) (totOf m vs) then ⟨#[48, 48]⟩ else ⟨#[57, 53]⟩ := by unfold ansOf; rw [eR]
  unfold readT
  dsimp only
  by_cases he : er = 0
  · rw [if_neg (show ¬ er ≠ 0 from fun h => h he)] at hans
    rw [hans, if_pos he]
    clear hans
    cases closed with
    | false =>
      rw [if_neg (show ¬ false = true by simp), if_pos (by omega)]
      rfl
    | true =>
      rw [if_pos (show true = true from rfl), Bool.true_and, show totOf m vs = (m, (vs.getD 0 0, vs.getD 1 0, vs.getD 2 0, vs.getD 3 0, vs.getD 4 0)) from rfl, hit_bal]
      exact ref_ans_loop m dn L hL A hA _ _ _ _ _ _ L.length k 0 (by omega) (by omega) (fun j _ h => absurd h (by omega))
  · rw [if_pos (show er ≠ 0 from he)] at hans
    rw [hans, if_neg he, if_pos (by omega)]
end Go.Proofs.YtjndfmpicnkplaaGreatDoor.PureReconAnswers
