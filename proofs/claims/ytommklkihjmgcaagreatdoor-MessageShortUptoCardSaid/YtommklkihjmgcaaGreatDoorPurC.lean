/- Layer 5: what is read is written as these bytes: plain laws. No walk. Conditions: as each theorem says. -/
import Derived.Test.YtommklkihjmgcaaGreatDoorPurX
namespace Go.Proofs.YtommklkihjmgcaaGreatDoor.msgw
open Go.RowKit
open Go.Proofs.YtommklkihjmgcaaGreatDoor.msgp
open Go.Proofs.YtommklkihjmgcaaGreatDoor.fieldp
open Go.Proofs.YtommklkihjmgcaaGreatDoor.fieldw
open Go.Proofs.YtommklkihjmgcaaGreatDoor.fieldl
theorem takeM_ok {b : List UInt8} {k n c no : Int} (h : (takeM (nums8 b, none) k n c no).2.2 = none) :
    ∃ (t : ByteArray) (r : List UInt8), takeM (nums8 b, none) k n c no = (t, (nums8 r, none)) ∧ checkR k n c t.data.toList = 0 ∧ b = putBytes k c t.data.toList ++ r := by
  have hck := takeM_none h
  unfold takeM at h hck ⊢
  simp only at h hck ⊢
  by_cases h0 : (takeR (nums8 b) k n c).2.2 = 0
  · simp only [if_pos h0] at hck ⊢
    obtain ⟨_, h2⟩ := takeR_zero h0
    rw [str_back] at h2
    have h3 : (takeR (nums8 b) k n c).2.1 = nums8 (strOfNums (takeR (nums8 b) k n c).2.1).data.toList := by
      unfold takeR at h0 ⊢
      by_cases hm : mayB k n c = true
      · rw [if_pos hm] at h0 ⊢
        by_cases he : (textL k n c (strOfNums (nums8 b)).data.toList).2.2 ≠ 0
        · rw [if_pos he] at h0
          exact absurd h0 he
        · rw [if_neg he] at h0 ⊢
          by_cases hr : rightB k n (textL k n c (strOfNums (nums8 b)).data.toList).1 = true
          · rw [if_pos hr]
            simp only
            rw [str_back, str_back]
          · rw [if_neg hr] at h0
            cases h0
      · rw [if_neg hm] at h0
        cases h0
    exact ⟨_, _, by rw [← h3], hck, h2⟩
  · rw [if_neg h0] at h
    cases h
theorem decFin_inv {ty0 ty : Int} {st : Rst × Flds} {F : Flds} (h : decFin ty0 st = ((ty, F), none)) : ty0 = ty ∧ st.2 = F ∧ st.1 = ([], none) := by
  unfold decFin at h
  obtain ⟨⟨l, e⟩, G⟩ := st
  cases e with
  | some e =>
    have : (if 0 < l.length then failM (l, some e) 54 else (l, some e)).2 = some e := by split <;> rfl
    simp only [this] at h
    cases h
  | none =>
    by_cases hl : 0 < l.length
    · simp only [if_pos hl] at h
      cases h
    · simp only [if_neg hl] at h
      simp only [Prod.mk.injEq, and_true] at h
      have : l = [] := List.eq_nil_of_length_eq_zero (by omega)
      subst this
      exact ⟨h.1, h.2, rfl⟩
theorem noForm_inv {out : Int} : ∀ {L : List Int} {s : Rst}, (L.foldl (noForm out) s).2 = none → s.2 = none ∧ (∀ no ∈ L, formF no out ≠ none)
  | [], s, h => ⟨h, fun _ h => by cases h⟩
  | x :: r, s, h => by
    rw [List.foldl_cons] at h
    obtain ⟨h1, h2⟩ := noForm_inv h
    have hx : formF x out ≠ none := by
      intro hx
      unfold noForm at h1
      rw [if_pos hx] at h1
      unfold failM at h1
      obtain ⟨l, e⟩ := s
      cases e <;> cases h1
    have hs : noForm out s x = s := by unfold noForm; rw [if_neg hx]
    rw [hs] at h1
    exact ⟨h1, fun no hno => by
      rcases List.mem_cons.1 hno with rfl | hno
      · exact hx
      · exact h2 no hno⟩
theorem fld_state {code out : Int} {L : List Int} {s : Rst} {F : Flds} (h : (L.foldl (fldStep code out) (s, F)).1.2 = none) : s.2 = none := by
  cases hs : s.2 with
  | none => rfl
  | some e =>
    rw [fldStep_err code out hs, hs] at h
    cases h
theorem code_of {k n c : Int} (hc : 1 ≤ c ∧ c ≤ 3) {l : List UInt8} (h : checkR k n c l = 0) : checkR k n 1 l = 0 := by
  have hm : mayB k n 1 = mayB k n c := by obtain ⟨h1, h2⟩ := hc; simp [mayB, h1, h2]
  unfold checkR at h ⊢
  rw [hm]
  exact h
/-- A field that was taken may be, and is written as it was. -/
theorem fld_ok {code out no k s : Int} (hc : 1 ≤ code ∧ code ≤ 3) (ho : out = 0 ∨ out = 2) (hf : formF no out = some (k, s)) {t : ByteArray} (hck : checkR k s code t.data.toList = 0) :
    OkF out (no, amtPre out no t) ∧ cutT out (no, amtPre out no t) = t := by
  by_cases h4 : no = 4
  · subst h4
    rw [form4] at hf
    simp only [Option.some.injEq, Prod.mk.injEq] at hf
    obtain ⟨rfl, rfl⟩ := hf
    have hr := checkR_right hck
    obtain ⟨ha, hl⟩ := ofB_all (show ofB t.data.toList tenL (12 - out) = true from hr)
    have hpre : (amtPre out 4 t).data.toList = List.replicate out.toNat 48 ++ t.data.toList := by
      unfold amtPre
      rw [if_pos rfl, ByteArray.data_append, Array.toList_append]
      rcases ho with rfl | rfl <;> rfl
    have hcut : cutT out (4, amtPre out 4 t) = t := by
      unfold cutT
      rw [if_pos rfl]
      apply arr_list
      simp only [ByteArray.data_extract, Array.toList_extract, List.extract_eq_take_drop, hpre]
      rw [List.drop_left' (by simp), List.take_of_length_le]
      have := congrArg List.length hpre
      simp only [List.length_append, List.length_replicate, Array.length_toList] at this ⊢
      have h9 : (amtPre out 4 t).size = (amtPre out 4 t).data.size := rfl
      omega
    refine ⟨⟨⟨1, 12, by rw [form4]; rfl, ?_⟩, ?_⟩, hcut⟩
    · unfold checkR
      rw [show mayB 1 12 1 = true from by decide]
      have : rightB 1 12 (amtPre out 4 t).data.toList = true := by
        show ofB _ tenL 12 = true
        unfold ofB
        rw [hpre, Bool.and_eq_true]
        refine ⟨?_, ?_⟩
        · rw [List.all_append, ha, Bool.and_true, List.all_eq_true]
          intro c hc2
          rw [(List.mem_replicate.1 hc2).2]
          decide
        · rw [List.length_append, List.length_replicate]
          have : 0 ≤ out ∧ out ≤ 2 := by omega
          exact decide_eq_true (by push_cast; omega)
      simp only
      rw [this]
      rfl
    · unfold badA
      simp only [decide_eq_false_iff_not, not_and, true_and]
      intro h2 h3
      apply h3
      obtain rfl : out = 2 := by omega
      apply arr_list
      simp only [ByteArray.data_extract, Array.toList_extract, List.extract_eq_take_drop, hpre]
      rfl
  · have ha : amtPre out no t = t := by unfold amtPre; rw [if_neg h4]
    rw [ha]
    refine ⟨⟨⟨k, s, by rw [formF_out h4] at hf; exact hf, code_of hc hck⟩, ?_⟩, by unfold cutT; rw [if_neg h4]⟩
    unfold badA
    simp [h4]
theorem fld_reads {code out : Int} (hc : 1 ≤ code ∧ code ≤ 3) (ho : out = 0 ∨ out = 2) : ∀ (L : List Int) (b : List UInt8) (acc : Flds), (∀ no ∈ L, formF no out ≠ none) → (L.foldl (fldStep code out) ((nums8 b, none), acc)).1 = ([], none) →
    ∃ F, (L.foldl (fldStep code out) ((nums8 b, none), acc)).2 = acc ++ F ∧ F.map (·.1) = L ∧ b = bodyM code out F ∧ ∀ x ∈ F, OkF out x
  | [], b, acc, _, h => by
    have hb : b = [] := by
      have : nums8 b = [] := congrArg Prod.fst h
      simpa [nums8] using this
    exact ⟨[], by simp, rfl, by rw [hb]; rfl, fun _ h => by cases h⟩
  | no :: r, b, acc, hfm, h => by
    obtain ⟨⟨k, s⟩, hf⟩ : ∃ x, formF no out = some x := Option.ne_none_iff_exists'.1 (hfm no (by simp))
    rw [List.foldl_cons] at h ⊢
    have hst : (fldStep code out ((nums8 b, none), acc) no).1.2 = none := by
      apply fld_state (L := r) (F := (fldStep code out ((nums8 b, none), acc) no).2)
      show (List.foldl (fldStep code out) (fldStep code out ((nums8 b, none), acc) no) r).1.2 = none
      rw [h]
    have hst2 : (takeM (nums8 b, none) k s code no).2.2 = none := by
      unfold fldStep at hst
      simp only [formD_of hf] at hst
      exact hst
    obtain ⟨t, r2, e1, e2, e3⟩ := takeM_ok hst2
    have e4 : fldStep code out ((nums8 b, none), acc) no = ((nums8 r2, none), acc ++ [(no, amtPre out no t)]) := by
      unfold fldStep
      simp only [formD_of hf, e1]
    rw [e4] at h ⊢
    obtain ⟨F, f1, f2, f3, f4⟩ := fld_reads hc ho r r2 _ (fun x hx => hfm x (by simp [hx])) h
    obtain ⟨g1, g2⟩ := fld_ok hc ho hf e2
    refine ⟨(no, amtPre out no t) :: F, by rw [f1, List.append_assoc]; rfl, by rw [List.map_cons, f2], ?_, ?_⟩
    · rw [e3, f3]
      simp only [bodyM, List.flatMap_cons, putF_of (x := (no, amtPre out no t)) hf, g2]
    · intro x hx
      rcases List.mem_cons.1 hx with rfl | hx
      · exact g1
      · exact f4 x hx
theorem numH_inj : ∀ (n : Nat) (a b : List UInt8), a.length = n → b.length = n → a.all (inRow hexL) = true → b.all (inRow hexL) = true → numH a = numH b → a = b
  | 0, a, b, ha, hb, _, _, _ => by
    rw [List.eq_nil_of_length_eq_zero ha, List.eq_nil_of_length_eq_zero hb]
  | n + 1, a, b, ha, hb, h1, h2, h => by
    obtain ⟨x, c, rfl⟩ : ∃ x c, a = x ++ [c] := ⟨a.dropLast, a.getLast (by intro e; rw [e] at ha; cases ha), (List.dropLast_concat_getLast _).symm⟩
    obtain ⟨y, d, rfl⟩ : ∃ y d, b = y ++ [d] := ⟨b.dropLast, b.getLast (by intro e; rw [e] at hb; cases hb), (List.dropLast_concat_getLast _).symm⟩
    simp only [List.length_append, List.length_cons, List.length_nil] at ha hb
    rw [List.all_append, Bool.and_eq_true] at h1 h2
    simp only [List.all_cons, List.all_nil, Bool.and_true] at h1 h2
    rw [numH_snoc, numH_snoc] at h
    have hcx : isHex c := by simpa [isHex, inRow] using h1.2
    have hdx : isHex d := by simpa [isHex, inRow] using h2.2
    have hc := hv_lt hcx
    have hd := hv_lt hdx
    have e1 : numH x = numH y := by omega
    have e2 : hv c = hv d := by omega
    rw [numH_inj n x y (by omega) (by omega) h1.1 h2.1 e1, ← hexd_hv hcx, ← hexd_hv hdx, e2]
theorem hex16_numH {t : List UInt8} (h : t.all (inRow hexL) = true) (hl : t.length = 16) : hex16 (numH t) = t := by
  have hlt := numH_lt h
  rw [hl] at hlt
  exact numH_inj 16 _ _ (hex16_len _) hl (hex16_all _) h (numH_hex16 (by simpa using hlt))
theorem hex_of {c : Int} {t : ByteArray} (h : checkR 4 8 c t.data.toList = 0) : t.data.toList.all (inRow hexL) = true ∧ t.data.toList.length = 16 := by
  obtain ⟨h1, h2⟩ := ofB_all (show ofB _ hexL (2 * 8) = true from checkR_right h)
  exact ⟨h1, by omega⟩
/-- A map that was read is written as it was. -/
theorem map_reads {code : Int} {b : List UInt8} (h : (decMap code (nums8 b, none)).2.2 = none) :
    ∃ (m : Nat × Nat) (r : List UInt8), decMap code (nums8 b, none) = (m, (nums8 r, none)) ∧ m.1 < 2 ^ 64 ∧ m.2 < 2 ^ 64 ∧ (m.1 / 9223372036854775808 = 1 ↔ m.2 ≠ 0) ∧ b = putBytes 4 code (hex16 m.1) ++ (if m.2 = 0 then [] else putBytes 4 code (hex16 m.2)) ++ r := by
  have h1 : (takeM (nums8 b, none) 4 8 code 0).2.2 = none := by
    cases h1 : (takeM (nums8 b, none) 4 8 code 0).2.2 with
    | none => rfl
    | some e =>
      unfold decMap at h
      simp only at h
      split at h
      · rw [takeM_err h1] at h
        simp only at h
        split at h
        · rw [failM_err h1, h1] at h; cases h
        · rw [h1] at h; cases h
      · rw [h1] at h; cases h
  obtain ⟨t, r, e1, e2, e3⟩ := takeM_ok h1
  obtain ⟨t1, t2⟩ := hex_of e2
  have hlt := numH_lt t1
  rw [t2] at hlt
  unfold decMap at h ⊢
  simp only [e1] at h ⊢
  by_cases hn : numH t.data.toList / 9223372036854775808 = 1
  · rw [if_pos hn] at h ⊢
    simp only at h ⊢
    have h3 : (takeM (nums8 r, none) 4 8 code 0).2.2 = none := by
      cases h3 : (takeM (nums8 r, none) 4 8 code 0).2.2 with
      | none => rfl
      | some e =>
        split at h
        · rw [failM_err h3, h3] at h; cases h
        · rw [h3] at h; cases h
    obtain ⟨u, r2, f1, f2, f3⟩ := takeM_ok h3
    obtain ⟨u1, u2⟩ := hex_of f2
    have hlt2 := numH_lt u1
    rw [u2] at hlt2
    simp only [f1] at h ⊢
    have hz : numH u.data.toList ≠ 0 := by
      intro hz
      rw [if_pos hz] at h
      cases h
    rw [if_neg hz]
    refine ⟨_, r2, rfl, by simpa using hlt, by simpa using hlt2, ⟨fun _ => hz, fun _ => hn⟩, ?_⟩
    simp only
    rw [if_neg hz, hex16_numH t1 t2, hex16_numH u1 u2, List.append_assoc, ← f3]
    exact e3
  · rw [if_neg hn] at h ⊢
    refine ⟨_, r, rfl, by simpa using hlt, (show 0 < 2 ^ 64 by decide), ⟨fun h => absurd h hn, fun h => absurd rfl h⟩, ?_⟩
    simp only
    rw [if_pos trivial, hex16_numH t1 t2, List.append_nil]
    exact e3
theorem maps_back {out : Int} {F : Flds} {m : Nat × Nat} (h : ∀ x ∈ F, OkF out x) (h1 : m.1 < 2 ^ 64) (h2 : m.2 < 2 ^ 64) (h3 : m.1 / 9223372036854775808 = 1 ↔ m.2 ≠ 0) (hm : F.map (·.1) = nosM m) : (topBit (mapsM F), (mapsM F).2) = m := by
  have hb : ∀ no : Int, 2 ≤ no ∧ no ≤ 128 → bitM (mapsM F) no = bitM m no := by
    intro no hn
    rw [maps_bit (ok_range h) hn, hm]
    cases hbm : bitM m no with
    | true => exact decide_eq_true (nosM_mem.2 ⟨hn, hbm⟩)
    | false => exact decide_eq_false (fun hh => by rw [(nosM_mem.1 hh).2] at hbm; cases hbm)
  obtain ⟨l1, l2⟩ := maps_lt (ok_range h)
  have e2 : (mapsM F).2 = m.2 := by
    apply Nat.eq_of_testBit_eq
    intro j
    by_cases hj : j < 64
    · have := hb (128 - (j : Int)) (by omega)
      rw [bitM_test, bitM_test, if_neg (by omega), if_neg (by omega), show (128 - (128 - (j : Int))).toNat = j by omega] at this
      exact this
    · rw [Nat.testBit_lt_two_pow (Nat.lt_of_lt_of_le l2 (Nat.pow_le_pow_right (by decide) (by omega))), Nat.testBit_lt_two_pow (Nat.lt_of_lt_of_le h2 (Nat.pow_le_pow_right (by decide) (by omega)))]
  have e1 : topBit (mapsM F) = m.1 := by
    apply Nat.eq_of_testBit_eq
    intro j
    by_cases hj : j < 63
    · have h4 := hb (64 - (j : Int)) (by omega)
      have h5 := top_bit (mapsM F) (no := 64 - (j : Int)) (by omega)
      rw [bitM_test, bitM_test, if_pos (by omega), if_pos (by omega), show (64 - (64 - (j : Int))).toNat = j by omega] at h4 h5
      exact h5.trans h4
    · by_cases hj2 : j = 63
      · subst hj2
        have ha : (topBit (mapsM F)).testBit 63 = decide ((mapsM F).2 ≠ 0) := by
          rw [Nat.testBit_eq_decide_div_mod_eq, decide_eq_decide, ← top_one l1]
          have := top_lt l1
          show topBit (mapsM F) / 9223372036854775808 % 2 = 1 ↔ _
          omega
        have hb2 : m.1.testBit 63 = decide (m.2 ≠ 0) := by
          rw [Nat.testBit_eq_decide_div_mod_eq, decide_eq_decide, ← h3]
          show m.1 / 9223372036854775808 % 2 = 1 ↔ _
          omega
        rw [ha, hb2, e2]
      · rw [Nat.testBit_lt_two_pow (Nat.lt_of_lt_of_le (top_lt l1) (show 2 ^ 64 ≤ 2 ^ j from Nat.pow_le_pow_right (by decide) (by omega))), Nat.testBit_lt_two_pow (Nat.lt_of_lt_of_le h1 (Nat.pow_le_pow_right (by decide) (by omega)))]
  rw [e1, e2]
theorem errF_ok {out : Int} : ∀ {F : Flds} {last : Int}, (∀ x ∈ F, OkF out x) → (F.map (·.1)).Pairwise (· < ·) → (∀ x ∈ F, last < x.1) → errF last F = none
  | [], _, _, _, _ => rfl
  | x :: r, last, h, hp, hl => by
    obtain ⟨k, s, h1, h2⟩ := (h x (by simp)).1
    rw [List.map_cons, List.pairwise_cons] at hp
    have := hl x (by simp)
    unfold errF
    rw [h1]
    simp only
    rw [if_neg (by omega), if_pos h2]
    exact errF_ok (fun y hy => h y (by simp [hy])) hp.2 (fun y hy => hp.1 y.1 (List.mem_map.2 ⟨y, hy, rfl⟩))
theorem nos_len {out : Int} {m : Nat × Nat} (h : ∀ no ∈ nosM m, formF no out ≠ none) : (nosM m).length ≤ 17 := by
  have h17 : (((List.range 127).map fun i : Nat => (i : Int) + 2).filter fun no => decide (fieldAt no < 17)).length = 17 := by decide +kernel
  rw [← h17]
  unfold nosM nosK
  rw [← List.countP_eq_length_filter, ← List.countP_eq_length_filter]
  refine List.countP_mono_left (fun no hno hb => ?_)
  have h1 := h no (List.mem_filter.2 ⟨hno, hb⟩)
  unfold formF at h1
  split at h1
  · rename_i h2; exact decide_eq_true h2
  · exact absurd rfl h1
theorem itoa_three {ty : Int} (h : typesL.contains ty = true) : Lib.itoa ty = [UInt8.ofNat (48 + ty.toNat / 100), UInt8.ofNat (48 + ty.toNat / 10 % 10), UInt8.ofNat (48 + ty.toNat % 10)] := by
  have h2 : ty ∈ typesL := by simpa using h
  have : ∀ t ∈ typesL, Lib.itoa t = [UInt8.ofNat (48 + t.toNat / 100), UInt8.ofNat (48 + t.toNat / 10 % 10), UInt8.ofNat (48 + t.toNat % 10)] := by decide +kernel
  exact this ty h2
theorem byte_ofNat {c : UInt8} {n : Nat} (h : c.toNat = n) : c = UInt8.ofNat n := by rw [← h, UInt8.ofNat_toNat]
/-- A head that was read is written as it was. -/
theorem head_reads {code ver : Int} (_hc : 1 ≤ code ∧ code ≤ 3) (hv : 48 ≤ ver ∧ ver ≤ 57) {b : List UInt8} (h : (decHead code ver (nums8 b)).2.2 = none) :
    ∃ (ty : Int) (r : List UInt8), decHead code ver (nums8 b) = (ty, (nums8 r, none)) ∧ typesL.contains ty = true ∧ b = headM code ver ty ++ r := by
  have h1 : (takeM (nums8 b, none) 1 4 code 0).2.2 = none := by
    cases h1 : (takeM (nums8 b, none) 1 4 code 0).2.2 with
    | none => rfl
    | some e =>
      unfold decHead at h
      simp only [h1] at h
      cases h
  obtain ⟨t, r, e1, e2, e3⟩ := takeM_ok h1
  obtain ⟨t1, t2⟩ := ofB_all (show ofB t.data.toList tenL 4 = true from checkR_right e2)
  have hbad : headBad ver t = false := by
    cases hb : headBad ver t with
    | false => rfl
    | true =>
      unfold decHead at h
      simp only [e1, hb, if_true] at h
      cases h
  have hb2 := hbad
  unfold headBad at hb2
  rw [Bool.or_eq_false_iff, Bool.not_eq_false'] at hb2
  obtain ⟨hb3, hb4⟩ := hb2
  refine ⟨tyOf t, r, ?_, hb4, ?_⟩
  · unfold decHead
    simp only [e1, hbad]
    rfl
  · rw [e3]
    congr 1
    unfold headM
    congr 1
    obtain ⟨x, ex⟩ : ∃ x, t.data.toList = x := ⟨_, rfl⟩
    rw [ex] at t1 t2 hb3 ⊢
    have htt : t = ⟨x.toArray⟩ := arr_list (by rw [ex])
    match x, t2 with
    | [a, b, c, d], _ =>
      have hty : tyOf t = (amountR [b, c, d]).1 := by rw [htt, tyOf_cons]
      simp only [List.all_cons, List.all_nil, Bool.and_true, Bool.and_eq_true] at t1
      obtain ⟨_, tb, tc, td⟩ := t1
      have hnum : (amountR [b, c, d]).1 = numL [b, c, d] := by
        unfold amountR
        rw [if_pos ⟨by simp, by simp, by simp [tb, tc, td]⟩]
      have db := row_dig tb
      have dc := row_dig tc
      have dd := row_dig td
      unfold isDig at db dc dd
      have hv2 : numL [b, c, d] = 100 * ((b.toNat : Int) - 48) + 10 * ((c.toNat : Int) - 48) + ((d.toNat : Int) - 48) := by
        simp only [numL, List.foldl_cons, List.foldl_nil]
        omega
      rw [itoa_three hb4]
      have ht := hty.trans (hnum.trans hv2)
      have ha : (a.toNat : Int) = ver := by simpa using hb3
      rw [byte_ofNat (c := a) (n := ver.toNat) (by omega), byte_ofNat (c := b) (n := 48 + (tyOf t).toNat / 100) (by omega), byte_ofNat (c := c) (n := 48 + (tyOf t).toNat / 10 % 10) (by omega), byte_ofNat (c := d) (n := 48 + (tyOf t).toNat % 10) (by omega)]
/-- What is read is written as these bytes. -/
theorem enc_dec {code ver out ty : Int} {F : Flds} (hc : 1 ≤ code ∧ code ≤ 3) (hv : 48 ≤ ver ∧ ver ≤ 57) (ho : out = 0 ∨ out = 2) {b : List UInt8} (h : decM code ver out (nums8 b) = ((ty, F), none)) :
    encE out ty F = none ∧ encB code ver out ty F = b ∧ F.length ≤ 17 := by
  have hh : (decHead code ver (nums8 b)).2.2 = none := by
    cases hh : (decHead code ver (nums8 b)).2.2 with
    | none => rfl
    | some e => rw [dec_err_head hh] at h; cases h
  obtain ⟨ty0, r, e1, e2, e3⟩ := head_reads hc hv hh
  have hm : (decMap code (nums8 r, none)).2.2 = none := by
    cases hm : (decMap code (nums8 r, none)).2.2 with
    | none => rfl
    | some e => rw [dec_err_map (e := e) (by rw [e1]; exact hm)] at h; cases h
  obtain ⟨m, r2, f1, f2, f3, f4, f5⟩ := map_reads hm
  unfold decM at h
  simp only [e1, f1] at h
  obtain ⟨g1, g2, g3⟩ := decFin_inv h
  subst g1
  have hs : ((nosM m).foldl (noForm out) (nums8 r2, none)).2 = none := fld_state (by rw [g3])
  obtain ⟨_, hforms⟩ := noForm_inv hs
  rw [noForm_ok hforms] at g2 g3
  obtain ⟨G, k1, k2, k3, k4⟩ := fld_reads hc ho _ _ _ hforms g3
  rw [k1, List.nil_append] at g2
  subst g2
  have hmap := maps_back k4 f2 f3 f4 k2
  have hlen : G.length ≤ 17 := by
    have := nos_len hforms
    rw [← k2, List.length_map] at this
    exact this
  have herr : errF 0 G = none := errF_ok k4 (by rw [k2]; exact nosK_rising _ _) (fun x hx => by have := ok_range k4 x hx; omega)
  have henc : encE out ty0 G = none := by
    unfold encE checkM
    rw [if_neg (by rw [e2]; decide), if_neg (by omega), herr]
    simp only
    have : G.any (badA out) = false := by
      rw [List.any_eq_false]
      intro x hx
      rw [(k4 x hx).2]
      decide
    rw [this]
    rfl
  refine ⟨henc, ?_, hlen⟩
  have h1 : topBit (mapsM G) = m.1 := by rw [← hmap]
  have h2 : (mapsM G).2 = m.2 := by rw [← hmap]
  have hmb : mapB code (mapsM G) = putBytes 4 code (hex16 m.1) ++ (if m.2 = 0 then [] else putBytes 4 code (hex16 m.2)) := by
    unfold mapB
    rw [h1, h2]
  rw [encB_none henc, e3, f5, ← k3, hmb]
  simp only [List.append_assoc]
end Go.Proofs.YtommklkihjmgcaaGreatDoor.msgw
