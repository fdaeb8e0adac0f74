/- Layer 5: what one dialect writes it reads again: plain laws. No walk. Layer 5: what one dialect writes it reads again; a message that is cut is none: plain laws. No walk. Layer 5: the document's example, in plain words. No walk. Conditions: as each theorem says. -/
import Derived.Test.YtommklkihjmgcaaGreatDoorDecX
namespace Go.Proofs.YtommklkihjmgcaaGreatDoor.msgw
open Go.RowKit
open Go.Proofs.YtommklkihjmgcaaGreatDoor.msgp
open Go.Proofs.YtommklkihjmgcaaGreatDoor.fieldp
open Go.Proofs.YtommklkihjmgcaaGreatDoor.fieldw
open Go.Proofs.YtommklkihjmgcaaGreatDoor.fieldl
theorem str_back (x : List UInt8) : (strOfNums (nums8 x)).data.toList = x := by rw [str_nums]
theorem takeM_put {k n c no : Int} {t : List UInt8} (h : checkR k n c t = 0) (r : List UInt8) : takeM (nums8 (putBytes k c t ++ r), none) k n c no = (⟨t.toArray⟩, (nums8 r, none)) := by
  have hb := takeR_back h (nums8 (putBytes k c t ++ r)) r (str_back _)
  unfold takeM
  simp only [hb, if_true]
theorem formF_pos {no out : Int} {ks : Int × Int} (h : formF no out = some ks) : 2 ≤ no ∧ no ≤ 97 := nos_range (formF_nos h)
/-- A field that may be. -/
def OkF (out : Int) (x : Fld) : Prop := (∃ k s, formF x.1 0 = some (k, s) ∧ checkR k s 1 x.2.data.toList = 0) ∧ badA out x = false
theorem amt_back {out : Int} (ho : out = 0 ∨ out = 2) {x : Fld} (h : OkF out x) : amtPre out x.1 (cutT out x) = x.2 := by
  unfold amtPre cutT
  by_cases h4 : x.1 = 4
  · rw [if_pos h4, if_pos h4]
    rcases ho with rfl | rfl
    · apply arr_list
      simp
    · have hb : x.2.extract 0 2 = (⟨#[48, 48]⟩ : ByteArray) := by
        have := h.2
        unfold badA at this
        simpa [h4] using this
      have e : (⟨#[48, 48]⟩ : ByteArray).extract 0 (2 : Int).toNat = x.2.extract 0 2 := by rw [hb]; rfl
      rw [e]
      apply arr_list
      simp only [ByteArray.data_append, ByteArray.data_extract, Array.toList_append, Array.toList_extract, List.extract_eq_take_drop, List.drop_zero, Nat.sub_zero]
      rw [show (2 : Int).toNat = 2 from rfl, List.take_of_length_le (l := List.drop 2 _) (by simp)]
      exact List.take_append_drop 2 _
  · rw [if_neg h4, if_neg h4]
theorem formD_of {code out no k s : Int} (h : formF no out = some (k, s)) : formD code out no = (k, s, code) := by
  unfold formD
  rw [h]
theorem putF_of {code out k s : Int} {x : Fld} (h : formF x.1 out = some (k, s)) : putF code out x = putBytes k code (cutT out x).data.toList := by
  unfold putF
  rw [h]
theorem fld_put {code out : Int} (hc : 1 ≤ code ∧ code ≤ 3) (ho : out = 0 ∨ out = 2) (r : List UInt8) : ∀ (F acc : Flds), (∀ x ∈ F, OkF out x) →
    (F.map (·.1)).foldl (fldStep code out) ((nums8 (bodyM code out F ++ r), none), acc) = ((nums8 r, none), acc ++ F)
  | [], acc, _ => by simp [bodyM]
  | x :: F, acc, h => by
    obtain ⟨k, s, hf, hck⟩ := (h x (by simp)).1
    obtain ⟨k', s', hf', hck'⟩ := put_ok hc ho hf hck
    rw [List.map_cons, List.foldl_cons]
    have e1 : bodyM code out (x :: F) ++ r = putBytes k' code (cutT out x).data.toList ++ (bodyM code out F ++ r) := by
      simp only [bodyM, List.flatMap_cons, putF_of hf', List.append_assoc]
    have e2 : fldStep code out ((nums8 (bodyM code out (x :: F) ++ r), none), acc) x.1 = ((nums8 (bodyM code out F ++ r), none), acc ++ [x]) := by
      unfold fldStep
      simp only [formD_of hf']
      rw [e1, takeM_put hck']
      simp only [Prod.mk.injEq, true_and]
      rw [show (⟨(cutT out x).data.toList.toArray⟩ : ByteArray) = cutT out x from arr_list (by simp), amt_back ho (h x (by simp))]
    rw [e2, fld_put hc ho r F _ (fun y hy => h y (by simp [hy])), List.append_assoc]
    rfl
end Go.Proofs.YtommklkihjmgcaaGreatDoor.msgw
namespace Go.Proofs.YtommklkihjmgcaaGreatDoor.msgw
open Go.RowKit
open Go.Proofs.YtommklkihjmgcaaGreatDoor.msgp
open Go.Proofs.YtommklkihjmgcaaGreatDoor.fieldp
open Go.Proofs.YtommklkihjmgcaaGreatDoor.fieldw
open Go.Proofs.YtommklkihjmgcaaGreatDoor.fieldl
theorem tyOf_cons (c : UInt8) (l : List UInt8) : tyOf ⟨(c :: l).toArray⟩ = (amountR l).1 := by
  unfold tyOf
  have : ((⟨(c :: l).toArray⟩ : ByteArray).extract 1 (⟨(c :: l).toArray⟩ : ByteArray).size).data.toList = l := by
    simp only [ByteArray.data_extract, Array.toList_extract, List.extract_eq_take_drop]
    exact List.take_of_length_le (by simp [ByteArray.size])
  rw [this]
theorem amount_types {ty : Int} (h : typesL.contains ty = true) : (amountR (Lib.itoa ty)).1 = ty := by
  have h2 : ty ∈ typesL := by simpa using h
  have : ∀ t ∈ typesL, (amountR (Lib.itoa t)).1 = t := by decide +kernel
  exact this ty h2
theorem ver_byte {ver : Int} (hv : 48 ≤ ver ∧ ver ≤ 57) : ((UInt8.ofNat ver.toNat).toNat : Int) = ver := by
  rw [UInt8.toNat_ofNat_of_lt' (by show ver.toNat < 256; omega)]
  omega
theorem decHead_put {code ver ty : Int} (hc : 1 ≤ code ∧ code ≤ 3) (hv : 48 ≤ ver ∧ ver ≤ 57) (ht : typesL.contains ty = true) (r : List UInt8) : decHead code ver (nums8 (headM code ver ty ++ r)) = (ty, (nums8 r, none)) := by
  unfold decHead headM
  simp only [takeM_put (no := 0) (head_ok hc hv ht).1]
  have h1 : tyOf ⟨(UInt8.ofNat ver.toNat :: Lib.itoa ty).toArray⟩ = ty := by rw [tyOf_cons, amount_types ht]
  have h2 : headBad ver ⟨(UInt8.ofNat ver.toNat :: Lib.itoa ty).toArray⟩ = false := by
    unfold headBad
    rw [h1, ht]
    simp only [List.headD_cons, ver_byte hv]
    simp
  rw [h1, h2]
  rfl
theorem numH_rep (k : Nat) (l : List UInt8) : numH (List.replicate k 48 ++ l) = numH l := by
  have h0 : hv 48 = 0 := by decide
  induction k with
  | zero => rfl
  | succ k ih =>
    rw [List.replicate_succ, List.cons_append]
    unfold numH at ih ⊢
    rw [List.foldl_cons, h0]
    exact ih
theorem numH_hexF : ∀ (f u : Nat), u < 16 ^ f → numH (hexF f u) = u
  | 0, u, h => by
    have : u = 0 := by simpa using h
    subst this
    rfl
  | f + 1, u, h => by
    unfold hexF
    by_cases h16 : u < 16
    · rw [if_pos h16]
      simp only [numH, List.foldl_cons, List.foldl_nil, (hex_val u h16).1]
      omega
    · rw [if_neg h16, numH_snoc, numH_hexF f (u / 16) (by rw [Nat.pow_succ] at h; omega), (hex_val _ (Nat.mod_lt _ (by decide))).1]
      omega
theorem numH_hex16 {n : Nat} (h : n < 18446744073709551616) : numH (hex16 n) = n := by
  unfold hex16 hexN
  rw [numH_rep, numH_hexF 16 n (by simpa using h)]
theorem bitM_test (m : Nat × Nat) (no : Int) : bitM m no = if no ≤ 64 then m.1.testBit (64 - no).toNat else m.2.testBit (128 - no).toNat := by
  unfold bitM
  by_cases h : no ≤ 64
  · rw [if_pos h, if_pos h, Nat.testBit_eq_decide_div_mod_eq]
  · rw [if_neg h, if_neg h, Nat.testBit_eq_decide_div_mod_eq]
theorem addBit_bit (m : Nat × Nat) {a no : Int} (ha : 2 ≤ a ∧ a ≤ 128) (hn : 2 ≤ no ∧ no ≤ 128) : bitM (addBit m a) no = (bitM m no || decide (no = a)) := by
  rw [bitM_test, bitM_test]
  unfold addBit
  by_cases h1 : a ≤ 64 <;> by_cases h2 : no ≤ 64
  · simp only [if_pos h1, if_pos h2, Nat.testBit_or, Nat.testBit_two_pow]
    congr 1
    rw [decide_eq_decide]
    omega
  · simp only [if_pos h1, if_neg h2]
    have : ¬ no = a := by omega
    simp [this]
  · simp only [if_neg h1, if_pos h2]
    have : ¬ no = a := by omega
    simp [this]
  · simp only [if_neg h1, if_neg h2, Nat.testBit_or, Nat.testBit_two_pow]
    congr 1
    rw [decide_eq_decide]
    omega
theorem maps_fold : ∀ (F : Flds) (m : Nat × Nat) {no : Int}, (∀ x ∈ F, 2 ≤ x.1 ∧ x.1 ≤ 128) → 2 ≤ no ∧ no ≤ 128 → bitM (F.foldl (fun m x => addBit m x.1) m) no = (bitM m no || decide (no ∈ F.map (·.1)))
  | [], m, no, _, _ => by simp
  | x :: r, m, no, h, hn => by
    rw [List.foldl_cons, maps_fold r _ (fun y hy => h y (by simp [hy])) hn, addBit_bit m (h x (by simp)) hn, Bool.or_assoc]
    have hd : (decide (no = x.1) || decide (no ∈ r.map (·.1))) = decide (no ∈ (x :: r).map (·.1)) := by
      rw [List.map_cons, ← Bool.decide_or, decide_eq_decide, List.mem_cons]
    rw [hd]
theorem bit_zero (no : Int) : bitM (0, 0) no = false := by
  rw [bitM_test]
  simp
theorem maps_bit {F : Flds} (h : ∀ x ∈ F, 2 ≤ x.1 ∧ x.1 ≤ 128) {no : Int} (hn : 2 ≤ no ∧ no ≤ 128) : bitM (mapsM F) no = decide (no ∈ F.map (·.1)) := by
  unfold mapsM
  rw [maps_fold F _ h hn, bit_zero, Bool.false_or]
theorem maps_lt_fold : ∀ (F : Flds) (m : Nat × Nat), (∀ x ∈ F, 2 ≤ x.1 ∧ x.1 ≤ 128) → m.1 < 2 ^ 63 → m.2 < 2 ^ 64 → (F.foldl (fun m x => addBit m x.1) m).1 < 2 ^ 63 ∧ (F.foldl (fun m x => addBit m x.1) m).2 < 2 ^ 64
  | [], m, _, h1, h2 => ⟨h1, h2⟩
  | x :: r, m, h, h1, h2 => by
    have hx := h x (by simp)
    rw [List.foldl_cons]
    refine maps_lt_fold r _ (fun y hy => h y (by simp [hy])) ?_ ?_
    · unfold addBit
      split
      · exact Nat.or_lt_two_pow h1 (Nat.pow_lt_pow_right (by decide) (by omega))
      · exact h1
    · unfold addBit
      split
      · exact h2
      · exact Nat.or_lt_two_pow h2 (Nat.pow_lt_pow_right (by decide) (by omega))
theorem maps_lt {F : Flds} (h : ∀ x ∈ F, 2 ≤ x.1 ∧ x.1 ≤ 128) : (mapsM F).1 < 2 ^ 63 ∧ (mapsM F).2 < 2 ^ 64 := maps_lt_fold F (0, 0) h (by decide) (by decide)
theorem top_bit (m : Nat × Nat) {no : Int} (hn : 2 ≤ no) : bitM (topBit m, m.2) no = bitM m no := by
  rw [bitM_test, bitM_test]
  split
  · rename_i h
    unfold topBit
    split
    · rfl
    · show (m.1 ||| 9223372036854775808).testBit _ = _
      rw [Nat.testBit_or, show (9223372036854775808 : Nat) = 2 ^ 63 from rfl, Nat.testBit_two_pow]
      have : ¬ (63 = (64 - no).toNat) := by omega
      simp [this]
  · rfl
theorem top_lt {m : Nat × Nat} (h : m.1 < 2 ^ 63) : topBit m < 18446744073709551616 := by
  unfold topBit
  split
  · omega
  · exact Nat.or_lt_two_pow (n := 64) (by omega) (by decide)
theorem top_one {m : Nat × Nat} (h : m.1 < 2 ^ 63) : topBit m / 9223372036854775808 = 1 ↔ m.2 ≠ 0 := by
  unfold topBit
  split
  · rename_i h0
    have : m.1 / 9223372036854775808 = 0 := Nat.div_eq_of_lt (by omega)
    rw [this]
    simp [h0]
  · rename_i h0
    simp only [ne_eq, h0, not_false_iff, iff_true]
    have h1 : (m.1 ||| 9223372036854775808) < 2 ^ 64 := Nat.or_lt_two_pow (by omega) (by decide)
    have h2 : 9223372036854775808 ≤ (m.1 ||| 9223372036854775808) := Nat.right_le_or
    omega
theorem decMap_put {code : Int} (hc : 1 ≤ code ∧ code ≤ 3) {m : Nat × Nat} (h1 : m.1 < 2 ^ 63) (h2 : m.2 < 2 ^ 64) (r : List UInt8) : decMap code (nums8 (mapB code m ++ r), none) = ((topBit m, m.2), (nums8 r, none)) := by
  unfold decMap mapB
  rw [List.append_assoc, takeM_put (hex16_ok hc _)]
  simp only [numH_hex16 (top_lt h1)]
  by_cases h0 : m.2 = 0
  · rw [if_neg (by rw [top_one h1]; simp [h0]), if_pos h0, h0]
    rfl
  · rw [if_pos ((top_one h1).2 h0), if_neg h0, takeM_put (hex16_ok hc _)]
    simp only [numH_hex16 (show m.2 < 18446744073709551616 by omega)]
    rw [if_neg h0]
/-- Rising rows with the same members are one. -/
theorem rising_eq : ∀ {a b : List Int}, a.Pairwise (· < ·) → b.Pairwise (· < ·) → (∀ x, x ∈ a ↔ x ∈ b) → a = b
  | [], [], _, _, _ => rfl
  | [], y :: b, _, _, h => absurd ((h y).2 (by simp)) (by simp)
  | x :: a, [], _, _, h => absurd ((h x).1 (by simp)) (by simp)
  | x :: a, y :: b, ha, hb, h => by
    obtain ⟨ha1, ha2⟩ := List.pairwise_cons.1 ha
    obtain ⟨hb1, hb2⟩ := List.pairwise_cons.1 hb
    have e : x = y := by
      have h1 := (h x).1 (by simp)
      have h2 := (h y).2 (by simp)
      rcases List.mem_cons.1 h1 with e | h1
      · exact e
      · rcases List.mem_cons.1 h2 with e | h2
        · exact e.symm
        · have := ha1 y h2; have := hb1 x h1; omega
    subst e
    rw [rising_eq ha2 hb2 (fun z => ⟨fun hz => by
      rcases List.mem_cons.1 ((h z).1 (by simp [hz])) with e | h3
      · have := ha1 z hz; omega
      · exact h3, fun hz => by
      rcases List.mem_cons.1 ((h z).2 (by simp [hz])) with e | h3
      · have := hb1 z hz; omega
      · exact h3⟩)]
theorem nosK_rising (m : Nat × Nat) (k : Nat) : (nosK m k).Pairwise (· < ·) := by
  unfold nosK
  refine List.Pairwise.filter _ ?_
  rw [List.pairwise_map]
  exact List.pairwise_lt_range.imp (fun h => by omega)
theorem nosM_mem {m : Nat × Nat} {no : Int} : no ∈ nosM m ↔ (2 ≤ no ∧ no ≤ 128) ∧ bitM m no = true := by
  unfold nosM nosK
  rw [List.mem_filter, List.mem_map]
  constructor
  · rintro ⟨⟨i, hi, rfl⟩, h⟩
    have := List.mem_range.1 hi
    exact ⟨by omega, h⟩
  · rintro ⟨h, hb⟩
    exact ⟨⟨(no - 2).toNat, List.mem_range.2 (by omega), by omega⟩, hb⟩
theorem errF_rising : ∀ {F : Flds} {last : Int}, errF last F = none → (F.map (·.1)).Pairwise (· < ·)
  | [], _, _ => List.Pairwise.nil
  | x :: r, last, h => by
    obtain ⟨k, s, h1, h2, h3, h4⟩ := errF_cons' h
    rw [List.map_cons, List.pairwise_cons]
    refine ⟨fun y hy => ?_, errF_rising h4⟩
    obtain ⟨z, hz, rfl⟩ := List.mem_map.1 hy
    exact (errF_all h4 z hz).1
theorem ok_range {out : Int} {F : Flds} (h : ∀ x ∈ F, OkF out x) : ∀ x ∈ F, 2 ≤ x.1 ∧ x.1 ≤ 128 := fun x hx => by
  obtain ⟨k, s, hf, _⟩ := (h x hx).1
  have := formF_pos hf
  omega
theorem nosM_of {out : Int} {F : Flds} (h : ∀ x ∈ F, OkF out x) (hr : (F.map (·.1)).Pairwise (· < ·)) : nosM (topBit (mapsM F), (mapsM F).2) = F.map (·.1) := by
  refine rising_eq (nosK_rising _ _) hr (fun no => ?_)
  rw [nosM_mem]
  constructor
  · rintro ⟨h1, h2⟩
    rw [top_bit _ h1.1, maps_bit (ok_range h) h1] at h2
    exact of_decide_eq_true h2
  · intro hn
    obtain ⟨z, hz, rfl⟩ := List.mem_map.1 hn
    have h1 := ok_range h z hz
    exact ⟨h1, by rw [top_bit _ h1.1, maps_bit (ok_range h) h1]; exact decide_eq_true hn⟩
theorem noForm_ok {out : Int} {s : Rst} : ∀ {L : List Int}, (∀ no ∈ L, formF no out ≠ none) → L.foldl (noForm out) s = s
  | [], _ => rfl
  | x :: r, h => by
    rw [List.foldl_cons]
    have : noForm out s x = s := by unfold noForm; rw [if_neg (h x (by simp))]
    rw [this]
    exact noForm_ok (fun y hy => h y (by simp [hy]))
theorem encE_none {out ty : Int} {F : Flds} (h : encE out ty F = none) : typesL.contains ty = true ∧ F.length ≤ 24 ∧ errF 0 F = none ∧ ∀ x ∈ F, OkF out x := by
  unfold encE at h
  cases hck : checkM ty F with
  | some e => rw [hck] at h; cases h
  | none =>
    rw [hck] at h
    simp only at h
    obtain ⟨h1, h2, h3⟩ := checkM_none hck
    have hb : F.any (badA out) = false := by
      cases hb : F.any (badA out) with
      | false => rfl
      | true => rw [hb] at h; simp at h
    refine ⟨h1, h2, h3, fun x hx => ⟨?_, ?_⟩⟩
    · obtain ⟨_, k, s, h4, h5⟩ := errF_all h3 x hx
      exact ⟨k, s, h4, h5⟩
    · cases hbx : badA out x with
      | false => rfl
      | true => rw [List.any_eq_true.2 ⟨x, hx, hbx⟩] at hb; cases hb
theorem encB_none {code ver out ty : Int} {F : Flds} (h : encE out ty F = none) : encB code ver out ty F = headM code ver ty ++ mapB code (mapsM F) ++ bodyM code out F := by
  unfold encB
  rw [h]
theorem forms_ok {code out : Int} (hc : 1 ≤ code ∧ code ≤ 3) (ho : out = 0 ∨ out = 2) {F : Flds} (h : ∀ x ∈ F, OkF out x) : ∀ no ∈ F.map (·.1), formF no out ≠ none := fun no hno => by
  obtain ⟨z, hz, rfl⟩ := List.mem_map.1 hno
  obtain ⟨k, s, hf, hck⟩ := (h z hz).1
  obtain ⟨k', s', hf', _⟩ := put_ok hc ho hf hck
  rw [hf']
  simp
/-- What is written is read again. -/
theorem dec_enc {code ver out ty : Int} {F : Flds} (hc : 1 ≤ code ∧ code ≤ 3) (hv : 48 ≤ ver ∧ ver ≤ 57) (ho : out = 0 ∨ out = 2) (h : encE out ty F = none) (r : List UInt8) :
    decM code ver out (nums8 (encB code ver out ty F ++ r)) = decFin ty ((nums8 r, none), F) := by
  obtain ⟨h1, h2, h3, h4⟩ := encE_none h
  obtain ⟨m1, m2⟩ := maps_lt (ok_range h4)
  rw [encB_none h]
  unfold decM
  rw [List.append_assoc, List.append_assoc, decHead_put hc hv h1]
  simp only
  rw [decMap_put hc m1 m2]
  simp only
  rw [nosM_of h4 (errF_rising h3), noForm_ok (forms_ok hc ho h4), fld_put hc ho r F [] h4]
  rfl
theorem decFin_ok (ty : Int) (F : Flds) : decFin ty ((nums8 [], none), F) = ((ty, F), none) := rfl
theorem decFin_more {ty : Int} {F : Flds} {r : List UInt8} (h : r ≠ []) : decFin ty ((nums8 r, none), F) = ((0, []), some (.plain 54)) := by
  unfold decFin
  have : 0 < (nums8 r).length := by simp [nums8, List.length_pos_iff, h]
  rw [if_pos this]
  rfl
end Go.Proofs.YtommklkihjmgcaaGreatDoor.msgw
namespace Go.Proofs.YtommklkihjmgcaaGreatDoor.msgw
open Go.RowKit
open Go.Proofs.YtommklkihjmgcaaGreatDoor.msgp
open Go.Proofs.YtommklkihjmgcaaGreatDoor.fieldp
open Go.Proofs.YtommklkihjmgcaaGreatDoor.fieldw
/-- The example's fields. -/
def shF : Flds := [(7, ⟨#[48, 49, 48, 49, 48, 48, 48, 48, 48, 48]⟩), (11, ⟨#[48, 48, 48, 48, 48, 49]⟩), (70, ⟨#[48, 48, 49]⟩)]
theorem sh_err1 : (encR 1 800 shF).2 = 0 := by kernel_rfl
theorem sh_enc1 : (encR 1 800 shF).1 = [48, 56, 48, 48, 56, 50, 50, 48, 48, 48, 48, 48, 48, 48, 48, 48, 48, 48, 48, 48, 48, 52, 48, 48, 48, 48, 48, 48, 48, 48, 48, 48, 48, 48, 48, 48, 48, 49, 48, 49, 48, 48, 48, 48, 48, 48, 48, 48, 48, 48, 48, 49, 48, 48, 49] := by kernel_rfl
theorem sh_err2 : (encR 2 800 shF).2 = 0 := by kernel_rfl
theorem sh_len2 : (encR 2 800 shF).1.length = 28 := by kernel_rfl
theorem sh_dec2 : decR 2 (nums8 (encR 2 800 shF).1) = ((800, shF), 0) := by kernel_rfl
end Go.Proofs.YtommklkihjmgcaaGreatDoor.msgw
