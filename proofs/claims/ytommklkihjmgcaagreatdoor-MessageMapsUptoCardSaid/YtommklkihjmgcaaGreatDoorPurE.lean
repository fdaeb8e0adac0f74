/- Layer 5: the map's bytes: plain laws. No walk. Conditions: as each theorem says. -/
import Derived.Test.YtommklkihjmgcaaGreatDoorPurD
namespace Go.Proofs.YtommklkihjmgcaaGreatDoor.msgw
open Go.RowKit
open Go.Proofs.YtommklkihjmgcaaGreatDoor.msgp
open Go.Proofs.YtommklkihjmgcaaGreatDoor.fieldp
open Go.Proofs.YtommklkihjmgcaaGreatDoor.fieldw
open Go.Proofs.YtommklkihjmgcaaGreatDoor.fieldl
theorem numH_foldl : ∀ (l : List UInt8) (a : Nat), l.foldl (fun a c => 16 * a + hv c) a = a * 16 ^ l.length + numH l
  | [], a => by simp [numH]
  | c :: r, a => by
    have h0 := numH_foldl r (16 * a + hv c)
    have h1 := numH_foldl r (hv c)
    have h2 : numH (c :: r) = hv c * 16 ^ r.length + numH r := by
      rw [← h1]
      simp [numH]
    rw [List.foldl_cons, h0, h2, List.length_cons, Nat.pow_succ, Nat.add_mul, Nat.mul_comm 16 a, Nat.mul_assoc, Nat.mul_comm 16, Nat.add_assoc]
theorem numH_cons (c : UInt8) (r : List UInt8) : numH (c :: r) = hv c * 16 ^ r.length + numH r := by
  rw [← numH_foldl r (hv c)]
  simp [numH]
theorem packE_byte : ∀ (k : Nat) (l : List UInt8), l.length = 2 * k → l.all (inRow hexL) = true → ∀ j, j < k → ((packE l)[j]?.map UInt8.toNat) = some (numH l / 256 ^ (k - 1 - j) % 256)
  | 0, _, _, _, j, hj => by omega
  | k + 1, l, hl, hall, j, hj => by
    match l, hl with
    | a :: b :: r, hl =>
      simp only [List.length_cons] at hl
      simp only [List.all_cons, Bool.and_eq_true] at hall
      obtain ⟨ha, hb, hr⟩ := hall
      have ha' := hv_lt (c := a) (by simpa [isHex, inRow] using ha)
      have hb' := hv_lt (c := b) (by simpa [isHex, inRow] using hb)
      have hrl : r.length = 2 * k := by omega
      have hN : numH (a :: b :: r) = (16 * hv a + hv b) * 256 ^ k + numH r := by
        rw [numH_cons, numH_cons, List.length_cons, hrl, show (16 : Nat) ^ (2 * k + 1) = 16 * 256 ^ k by rw [Nat.pow_succ, Nat.pow_mul, Nat.mul_comm], show (16 : Nat) ^ (2 * k) = 256 ^ k by rw [Nat.pow_mul], Nat.add_mul, Nat.add_assoc]
        congr 1
        ac_rfl
      have hlt : numH r < 256 ^ k := by
        have := numH_lt hr
        rw [hrl, Nat.pow_mul] at this
        exact this
      have hE : packE (a :: b :: r) = (16 * hv a + hv b).toUInt8 :: packE r := rfl
      rw [hE, hN]
      cases j with
      | zero =>
        simp only [List.getElem?_cons_zero, Option.map_some, Option.some.injEq, Nat.add_sub_cancel, Nat.sub_zero]
        have hq : ((16 * hv a + hv b) * 256 ^ k + numH r) / 256 ^ k = 16 * hv a + hv b := by
          rw [Nat.add_comm, Nat.add_mul_div_right _ _ (Nat.pow_pos (by decide)), Nat.div_eq_of_lt hlt, Nat.zero_add]
        rw [hq]
        show (UInt8.ofNat (16 * hv a + hv b)).toNat = _
        rw [UInt8.toNat_ofNat']
      | succ j =>
        rw [List.getElem?_cons_succ, packE_byte k r hrl hr j (by omega), Option.some.injEq]
        have e1 : k + 1 - 1 - (j + 1) = k - 1 - j := by omega
        have e2 : (256 : Nat) ^ k = 256 ^ (k - 1 - j) * (256 * 256 ^ j) := by
          rw [← Nat.pow_succ', ← Nat.pow_add]
          congr 1
          omega
        have e3 : ((16 * hv a + hv b) * 256 ^ k + numH r) / 256 ^ (k - 1 - j) = numH r / 256 ^ (k - 1 - j) + 256 * (256 ^ j * (16 * hv a + hv b)) := by
          rw [e2, show (16 * hv a + hv b) * (256 ^ (k - 1 - j) * (256 * 256 ^ j)) + numH r = numH r + (256 * (256 ^ j * (16 * hv a + hv b))) * 256 ^ (k - 1 - j) by rw [Nat.add_comm]; congr 1; ac_rfl, Nat.add_mul_div_right _ _ (Nat.pow_pos (by decide))]
        rw [e1, e3, Nat.add_mul_mod_self_left]
theorem byte_bit (n p s : Nat) (hs : s < 8) : n / 256 ^ p % 256 / 2 ^ s % 2 = n / 2 ^ (8 * p + s) % 2 := by
  have h1 : (n / 256 ^ p % 256).testBit s = n.testBit (8 * p + s) := by
    rw [show (256 : Nat) ^ p = 2 ^ (8 * p) by rw [Nat.pow_mul], show (256 : Nat) = 2 ^ 8 from rfl, Nat.testBit_mod_two_pow, Nat.testBit_div_two_pow]
    simp [hs, Nat.add_comm]
  rw [Nat.testBit_eq_decide_div_mod_eq, Nat.testBit_eq_decide_div_mod_eq, decide_eq_decide] at h1
  omega
theorem put4 (l : List UInt8) (hl : l.length = 16) : putBytes 4 2 l = packE l := by
  show packL l = _
  unfold packL evened
  rw [if_neg (by omega)]
theorem put4_len (l : List UInt8) (hl : l.length = 16) : (putBytes 4 2 l).length = 8 := by
  rw [put4 l hl]
  exact packE_length 8 l (by omega)
/-- A bit of sixteen digits' bytes. -/
theorem put4_bit {n : Nat} (hn : n < 18446744073709551616) {j s : Nat} (hj : j < 8) (hs : s < 8) : ∃ x, (putBytes 4 2 (hex16 n))[j]? = some x ∧ x.toNat / 2 ^ s % 2 = (if n.testBit (8 * (7 - j) + s) then 1 else 0) := by
  rw [put4 _ (hex16_len n)]
  have h1 := packE_byte 8 (hex16 n) (hex16_len n) (hex16_all n) j hj
  rw [numH_hex16 hn] at h1
  obtain ⟨x, h2, h3⟩ := Option.map_eq_some_iff.1 h1
  refine ⟨x, h2, ?_⟩
  rw [h3, byte_bit _ _ _ hs, Nat.testBit_eq_decide_div_mod_eq]
  by_cases h : n / 2 ^ (8 * (7 - j) + s) % 2 = 1
  · rw [if_pos (decide_eq_true h)]
    exact h
  · rw [if_neg (by simpa using h)]
    show n / 2 ^ (8 * (7 - j) + s) % 2 = 0
    omega
theorem get_some (F : Flds) (no : Int) : (getM F no).isSome = decide (no ∈ F.map (·.1)) := by
  unfold getM
  rw [Option.isSome_map, Bool.eq_iff_iff, List.find?_isSome, decide_eq_true_eq, List.mem_map]
  constructor
  · rintro ⟨x, hx, h⟩; exact ⟨x, hx, of_decide_eq_true h⟩
  · rintro ⟨x, hx, h⟩; exact ⟨x, hx, decide_eq_true h⟩
/-- The map of dialect 2. -/
theorem map2 {ty : Int} {F : Flds} (h : (encR 2 ty F).2 = 0) : ∃ M r, (encR 2 ty F).1 = M ++ r ∧ M.length = (if (mapsM F).2 = 0 then 10 else 18) ∧
    (∀ k : Nat, 2 ≤ k → k ≤ (if (mapsM F).2 = 0 then 64 else 128) → ∃ x, M[2 + (k - 1) / 8]? = some x ∧ x.toNat / 2 ^ (7 - (k - 1) % 8) % 2 = (if (getM F (k : Int)).isSome then 1 else 0)) ∧
    (∃ x, M[2]? = some x ∧ (128 ≤ x.toNat ↔ (mapsM F).2 ≠ 0)) := by
  obtain ⟨hd, he, hb⟩ := enc_ok h
  obtain ⟨ht, _, herr, hk⟩ := encE_none he
  obtain ⟨l1, l2⟩ := maps_lt (ok_range hk)
  have htl := top_lt l1
  have hhl : (headM 2 49 ty).length = 2 := by
    have hm : ty ∈ typesL := by simpa using ht
    have : ∀ t ∈ typesL, (headM 2 49 t).length = 2 := by decide +kernel
    exact this ty hm
  refine ⟨headM 2 49 ty ++ mapB 2 (mapsM F), bodyM 2 0 F, by rw [hb, encB_none he]; rfl, ?_, ?_, ?_⟩
  · rw [List.length_append, hhl]
    unfold mapB
    rw [List.length_append, put4_len _ (hex16_len _)]
    split
    · rfl
    · rw [put4_len _ (hex16_len _)]
  · intro k h2 h3
    have hbit : ∀ no : Int, 2 ≤ no ∧ no ≤ 128 → bitM (topBit (mapsM F), (mapsM F).2) no = (getM F no).isSome := by
      intro no hn
      rw [top_bit _ hn.1, maps_bit (ok_range hk) hn, get_some]
    by_cases h64 : k ≤ 64
    · obtain ⟨x, hx, hv⟩ := put4_bit htl (j := (k - 1) / 8) (s := 7 - (k - 1) % 8) (by omega) (by omega)
      refine ⟨x, ?_, ?_⟩
      · rw [List.getElem?_append_right (by omega), hhl, show 2 + (k - 1) / 8 - 2 = (k - 1) / 8 by omega]
        unfold mapB
        rw [List.getElem?_append_left (by rw [put4_len _ (hex16_len _)]; omega)]
        exact hx
      · rw [hv]
        have := hbit (k : Int) (by omega)
        rw [bitM_test, if_pos (by omega), show (64 - (k : Int)).toNat = 8 * (7 - (k - 1) / 8) + (7 - (k - 1) % 8) by omega] at this
        rw [← this]
    · have hne : ¬ (mapsM F).2 = 0 := by intro h0; rw [if_pos h0] at h3; omega
      rw [if_neg hne] at h3
      obtain ⟨x, hx, hv⟩ := put4_bit (n := (mapsM F).2) (by omega) (j := (k - 1) / 8 - 8) (s := 7 - (k - 1) % 8) (by omega) (by omega)
      refine ⟨x, ?_, ?_⟩
      · rw [List.getElem?_append_right (by omega), hhl, show 2 + (k - 1) / 8 - 2 = (k - 1) / 8 by omega]
        unfold mapB
        rw [List.getElem?_append_right (by rw [put4_len _ (hex16_len _)]; omega), put4_len _ (hex16_len _), if_neg hne]
        exact hx
      · rw [hv]
        have := hbit (k : Int) (by omega)
        rw [bitM_test, if_neg (by omega), show (128 - (k : Int)).toNat = 8 * (7 - ((k - 1) / 8 - 8)) + (7 - (k - 1) % 8) by omega] at this
        rw [← this]
  · obtain ⟨x, hx, hv⟩ := put4_bit htl (j := 0) (s := 7) (by omega) (by omega)
    refine ⟨x, ?_, ?_⟩
    · rw [List.getElem?_append_right (by omega), hhl]
      unfold mapB
      rw [List.getElem?_append_left (by rw [put4_len _ (hex16_len _)]; omega)]
      exact hx
    · have hx2 := x.toNat_lt
      have h63 : (topBit (mapsM F)).testBit 63 = decide ((mapsM F).2 ≠ 0) := by
        rw [Nat.testBit_eq_decide_div_mod_eq, decide_eq_decide, ← top_one l1]
        show topBit (mapsM F) / 9223372036854775808 % 2 = 1 ↔ _
        omega
      rw [show 8 * (7 - 0) + 7 = 63 from rfl, h63] at hv
      by_cases h0 : (mapsM F).2 = 0
      · rw [decide_eq_false (by simpa using h0), if_neg (by decide)] at hv
        have hv' : x.toNat / 128 % 2 = 0 := hv
        exact ⟨fun h => by omega, fun h => absurd h0 h⟩
      · rw [decide_eq_true h0, if_pos rfl] at hv
        have hv' : x.toNat / 128 % 2 = 1 := hv
        exact ⟨fun _ => h0, fun _ => by omega⟩
def farM (F : Flds) (n : Int) : Bool := F.any fun x => decide (64 < x.1 ∧ x.1 < n)
theorem far_low (F : Flds) {n : Int} (h : n ≤ 65) : farM F n = false := by
  unfold farM
  rw [List.any_eq_false]
  intro x _ hh
  have := of_decide_eq_true hh
  omega
theorem far_next (F : Flds) (n : Int) : farM F (n + 1) = (farM F n || ((getM F n).isSome && decide (64 < n))) := by
  rw [get_some, Bool.eq_iff_iff]
  unfold farM
  simp only [List.any_eq_true, Bool.or_eq_true, Bool.and_eq_true, decide_eq_true_eq, List.mem_map]
  constructor
  · rintro ⟨x, hx, h1, h2⟩
    by_cases e : x.1 = n
    · exact .inr ⟨⟨x, hx, e⟩, by omega⟩
    · exact .inl ⟨x, hx, h1, by omega⟩
  · rintro (⟨x, hx, h1, h2⟩ | ⟨⟨x, hx, rfl⟩, h⟩)
    · exact ⟨x, hx, h1, by omega⟩
    · exact ⟨x, hx, h, by omega⟩
theorem far_end {ty : Int} {F : Flds} (h : (encR 2 ty F).2 = 0) (hm : (mapsM F).2 ≠ 0) : farM F 129 = true := by
  obtain ⟨hd, he, hb⟩ := enc_ok h
  obtain ⟨_, _, _, hk⟩ := encE_none he
  obtain ⟨_, l2⟩ := maps_lt (ok_range hk)
  cases hf : farM F 129 with
  | true => rfl
  | false =>
    exfalso
    apply hm
    apply Nat.eq_of_testBit_eq
    intro j
    rw [Nat.zero_testBit]
    by_cases hj : j < 64
    · have h1 := maps_bit (ok_range hk) (no := 128 - (j : Int)) (by omega)
      rw [bitM_test, if_neg (by omega), show (128 - (128 - (j : Int))).toNat = j by omega] at h1
      rw [h1]
      apply decide_eq_false
      intro hmem
      obtain ⟨x, hx, e⟩ := List.mem_map.1 hmem
      have h2 := List.any_eq_false.1 hf x hx
      apply h2
      exact decide_eq_true (by omega)
    · exact Nat.testBit_lt_two_pow (Nat.lt_of_lt_of_le l2 (Nat.pow_le_pow_right (by decide) (by omega)))
end Go.Proofs.YtommklkihjmgcaaGreatDoor.msgw
