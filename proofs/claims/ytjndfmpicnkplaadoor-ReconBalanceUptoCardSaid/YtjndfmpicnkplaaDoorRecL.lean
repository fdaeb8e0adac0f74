/- Layer 20: what was stated is read again; a balance. No walk. -/
import Derived.Test.YtjndfmpicnkplaaDoorRecG
import Derived.Test.YtjndfmpicnkplaaDoorFieldNum
namespace Go.Proofs.YtjndfmpicnkplaaDoor.msgw
open Go.RowKit
open Go.Proofs.YtjndfmpicnkplaaDoor.msgp
open Go.Proofs.YtjndfmpicnkplaaDoor.buf
open Go.Proofs.YtjndfmpicnkplaaDoor.fieldp
open Go.Proofs.YtjndfmpicnkplaaDoor.fieldw
open Go.Proofs.YtjndfmpicnkplaaDoor.fieldl
theorem dig_is {n : Int} {k : Nat} (_hk : 1 ≤ k ∧ k ≤ 18) (h : (digitsR n k).2 = 0) : 0 ≤ n ∧ n.toNat < 10 ^ k ∧ (digitsR n k).1 = ⟨(digL n.toNat k).toArray⟩ := by
  unfold digitsR at h ⊢
  split at h
  · cases h
  · rename_i h1
    split at h
    · cases h
    · rename_i h2
      rw [if_neg h1, if_neg h2]
      have h3 : ¬ (10 : Int) ^ k ≤ n := fun hc => h2 (.inr (by simpa using hc))
      refine ⟨by omega, ?_, by simp⟩
      have : ((10 ^ k : Nat) : Int) = (10 : Int) ^ k := by simp
      omega
theorem ext_all (l : List UInt8) (k : Nat) (hk : l.length = k) (a : List UInt8) : (ByteArray.extract ⟨(a ++ l).toArray⟩ a.length (a.length + k)).data.toList = l := by
  rw [ByteArray.data_extract]
  simp [List.take_of_length_le, hk]
theorem val_dig {n : Int} {k : Nat} (hk : 1 ≤ k ∧ k ≤ 18) (h : (digitsR n k).2 = 0) : valOf k (digitsR n k).1 = n := by
  obtain ⟨h0, h1, h2⟩ := dig_is hk h
  have hl := digL_length n.toNat k
  have e1 : (⟨(digL n.toNat k).toArray⟩ : ByteArray).size = k := by show (digL n.toNat k).toArray.size = k; simpa using hl
  have e2 := ext_all (digL n.toNat k) k hl []
  simp only [List.nil_append, List.length_nil, Nat.zero_add] at e2
  rw [h2]
  unfold valOf
  rw [e1, show ((k : Int) - k).toNat = 0 by omega, e2, if_neg, amount_digL hk.1 hk.2 h1]
  · show ((n.toNat : Nat) : Int) = n
    omega
  · intro hc
    have hm : (68 : UInt8) ∈ digL n.toNat k := List.mem_of_mem_head? hc
    have := digL_dig _ _ _ hm
    revert this
    unfold isDig
    decide
theorem val_signed {n : Int} (hn : okI n) (h : (signedR n 16).2 = 0) : valOf 16 (signedR n 16).1 = n := by
  unfold okI at hn
  unfold signedR at h ⊢
  by_cases h0 : n < 0
  · rw [if_pos h0] at h ⊢
    have h' : (digitsR (wrap64 (-n)) (16 : Nat)).2 = 0 := h
    obtain ⟨g0, g1, g2⟩ := dig_is (by decide) h'
    have hm : wrap64 (-n) = -n := by
      unfold wrap64 at g0 ⊢
      omega
    rw [hm] at g0 g1 g2
    show valOf 16 (⟨#[68]⟩ ++ (digitsR (wrap64 (-n)) (16 : Nat)).1) = n
    rw [hm, g2]
    have hl := digL_length (-n).toNat 16
    have e0 : ((⟨#[68]⟩ : ByteArray) ++ ⟨(digL (-n).toNat 16).toArray⟩) = ⟨([68] ++ digL (-n).toNat 16).toArray⟩ := by
      apply ByteArray.ext
      simp
    have e1 : (⟨([68] ++ digL (-n).toNat 16).toArray⟩ : ByteArray).size = 17 := by show ([68] ++ digL (-n).toNat 16).toArray.size = 17; simp [hl]
    have e2 : (ByteArray.extract ⟨([68] ++ digL (-n).toNat 16).toArray⟩ 1 17).data.toList = digL (-n).toNat 16 := ext_all (digL (-n).toNat 16) 16 hl [68]
    rw [e0]
    unfold valOf
    rw [e1, show ((17 : Nat) : Int) - 16 = ((1 : Nat) : Int) from rfl, Int.toNat_natCast, if_pos (by rfl)]
    rw [e2, amount_digL (by decide) (by decide) g1]
    show -(((-n).toNat : Nat) : Int) = n
    omega
  · rw [if_neg h0] at h ⊢
    have h' : (digitsR n (16 : Nat)).2 = 0 := h
    obtain ⟨g0, g1, g2⟩ := dig_is (by decide) h'
    show valOf 16 (⟨#[67]⟩ ++ (digitsR n (16 : Nat)).1) = n
    rw [g2]
    have hl := digL_length n.toNat 16
    have e0 : ((⟨#[67]⟩ : ByteArray) ++ ⟨(digL n.toNat 16).toArray⟩) = ⟨([67] ++ digL n.toNat 16).toArray⟩ := by
      apply ByteArray.ext
      simp
    have e1 : (⟨([67] ++ digL n.toNat 16).toArray⟩ : ByteArray).size = 17 := by show ([67] ++ digL n.toNat 16).toArray.size = 17; simp [hl]
    have e2 : (ByteArray.extract ⟨([67] ++ digL n.toNat 16).toArray⟩ 1 17).data.toList = digL n.toNat 16 := ext_all (digL n.toNat 16) 16 hl [67]
    rw [e0]
    unfold valOf
    have hh : ¬ (⟨([67] ++ digL n.toNat 16).toArray⟩ : ByteArray).data.toList.head? = some 68 := by
      show ¬ some (67 : UInt8) = some 68
      decide
    rw [e1, show ((17 : Nat) : Int) - 16 = ((1 : Nat) : Int) from rfl, Int.toNat_natCast, if_neg hh]
    rw [e2, amount_digL (by decide) (by decide) g1]
    show ((n.toNat : Nat) : Int) = n
    omega
theorem errF_cons {last : Int} {x : Fld} {r : Flds} (h : errF last (x :: r) = none) : ∃ k s, formF x.1 0 = some (k, s) ∧ last < x.1 ∧ checkR k s 1 x.2.data.toList = 0 ∧ errF x.1 r = none := by
  unfold errF at h
  split at h
  · cases h
  · rename_i k s e
    split at h
    · cases h
    · rename_i h1
      split at h
      · rename_i h2
        exact ⟨k, s, e, by omega, h2, h⟩
      · cases h
/-- The fields of a statement that is right. -/
theorem ask_list {code when stan : ByteArray} {t : Five} {F : Flds} (h : askF code when stan t = some F) :
    (digitsR t.1 10).2 = 0 ∧ (digitsR t.2.1 10).2 = 0 ∧ (digitsR t.2.2.1 16).2 = 0 ∧ (digitsR t.2.2.2.1 16).2 = 0 ∧ (signedR t.2.2.2.2 16).2 = 0 ∧
    F = [(7, when), (11, stan), (32, code), (74, (digitsR t.1 10).1), (76, (digitsR t.2.1 10).1), (86, (digitsR t.2.2.1 16).1), (88, (digitsR t.2.2.2.1 16).1), (97, (signedR t.2.2.2.2 16).1)] := by
  unfold askF items at h
  simp only [digF] at h
  obtain ⟨⟨a1, z1⟩, e1⟩ : ∃ r, digitsR t.1 10 = r := ⟨_, rfl⟩
  obtain ⟨⟨a2, z2⟩, e2⟩ : ∃ r, digitsR t.2.1 10 = r := ⟨_, rfl⟩
  obtain ⟨⟨a3, z3⟩, e3⟩ : ∃ r, digitsR t.2.2.1 16 = r := ⟨_, rfl⟩
  obtain ⟨⟨a4, z4⟩, e4⟩ : ∃ r, digitsR t.2.2.2.1 16 = r := ⟨_, rfl⟩
  obtain ⟨⟨a5, z5⟩, e5⟩ : ∃ r, signedR t.2.2.2.2 16 = r := ⟨_, rfl⟩
  rw [e1, e2, e3, e4, e5] at h
  rw [e1, e2, e3, e4, e5]
  clear e1 e2 e3 e4 e5
  dsimp only at h ⊢
  by_cases h1 : z1 = 0
  · rw [if_pos h1] at h
    by_cases h2 : z2 = 0
    · rw [if_pos h2] at h
      by_cases h3 : z3 = 0
      · rw [if_pos h3] at h
        by_cases h4 : z4 = 0
        · rw [if_pos h4, Option.bind_some] at h
          by_cases h5 : z5 = 0
          · rw [if_pos h5] at h
            refine ⟨h1, h2, h3, h4, h5, (Option.some.inj h).symm.trans ?_⟩
            kernel_rfl
          · rw [if_neg h5] at h; cases h
        · rw [if_neg h4] at h; cases h
      · rw [if_neg h3] at h; cases h
    · rw [if_neg h2] at h; cases h
  · rw [if_neg h1] at h; cases h
theorem ask_read {code when stan : ByteArray} {t : Five} {F : Flds} (h5 : okI t.2.2.2.2) (h : askR code when stan t = some F) : readR 500 F = ([t.1, t.2.1, t.2.2.1, t.2.2.2.1, t.2.2.2.2], 0) := by
  unfold askR at h
  cases e : askF code when stan t with
  | none => rw [e] at h; cases h
  | some G =>
    rw [e, Option.bind_some] at h
    split at h
    · rename_i he
      obtain rfl := Option.some.inj h
      obtain ⟨g1, g2, g3, g4, g5, hG⟩ := ask_list e
      have v1 := val_dig (k := 10) (by decide) g1
      have v2 := val_dig (k := 10) (by decide) g2
      have v3 := val_dig (k := 16) (by decide) g3
      have v4 := val_dig (k := 16) (by decide) g4
      have v5 := val_signed h5 g5
      obtain ⟨d1, ed1⟩ : ∃ d, (digitsR t.1 10).1 = d := ⟨_, rfl⟩
      obtain ⟨d2, ed2⟩ : ∃ d, (digitsR t.2.1 10).1 = d := ⟨_, rfl⟩
      obtain ⟨d3, ed3⟩ : ∃ d, (digitsR t.2.2.1 16).1 = d := ⟨_, rfl⟩
      obtain ⟨d4, ed4⟩ : ∃ d, (digitsR t.2.2.2.1 16).1 = d := ⟨_, rfl⟩
      obtain ⟨d5, ed5⟩ : ∃ d, (signedR t.2.2.2.2 16).1 = d := ⟨_, rfl⟩
      rw [ed1, ed2, ed3, ed4, ed5] at hG
      replace v1 : valOf 10 d1 = t.1 := by rw [← ed1]; exact v1
      replace v2 : valOf 10 d2 = t.2.1 := by rw [← ed2]; exact v2
      replace v3 : valOf 16 d3 = t.2.2.1 := by rw [← ed3]; exact v3
      replace v4 : valOf 16 d4 = t.2.2.2.1 := by rw [← ed4]; exact v4
      replace v5 : valOf 16 d5 = t.2.2.2.2 := by rw [← ed5]; exact v5
      clear ed1 ed2 ed3 ed4 ed5 e h
      have hc : copyM G readNos [] = G := by rw [hG]; kernel_rfl
      have hn : G.length = 8 := by rw [hG]; rfl
      have m1 : getM G 74 = some d1 := by rw [hG]; kernel_rfl
      have m2 : getM G 76 = some d2 := by rw [hG]; kernel_rfl
      have m3 : getM G 86 = some d3 := by rw [hG]; kernel_rfl
      have m4 : getM G 88 = some d4 := by rw [hG]; kernel_rfl
      have m5 : getM G 97 = some d5 := by rw [hG]; kernel_rfl
      rw [hG] at he
      obtain ⟨_, _, _, _, _, he⟩ := errF_cons he
      obtain ⟨_, _, _, _, _, he⟩ := errF_cons he
      obtain ⟨_, _, _, _, _, he⟩ := errF_cons he
      obtain ⟨k1, s1, f1, _, c1, he⟩ := errF_cons he
      obtain ⟨k2, s2, f2, _, c2, he⟩ := errF_cons he
      obtain ⟨k3, s3, f3, _, c3, he⟩ := errF_cons he
      obtain ⟨k4, s4, f4, _, c4, he⟩ := errF_cons he
      obtain ⟨k5, s5, f5, _, c5, he⟩ := errF_cons he
      cases (show formF 74 0 = some (1, 10) by rfl).symm.trans f1
      cases (show formF 76 0 = some (1, 10) by rfl).symm.trans f2
      cases (show formF 86 0 = some (1, 16) by rfl).symm.trans f3
      cases (show formF 88 0 = some (1, 16) by rfl).symm.trans f4
      cases (show formF 97 0 = some (5, 16) by rfl).symm.trans f5
      clear hG
      unfold readR
      rw [if_neg (by decide), hc, if_neg (by omega)]
      have hr : readL G tail5 = some [t.1, t.2.1, t.2.2.1, t.2.2.2.1, t.2.2.2.2] := by
        unfold tail5
        simp only [readL, m1, m2, m3, m4, m5, Option.getD_some]
        rw [if_pos c1, if_pos c2, if_pos c3, if_pos c4, if_pos c5, v1, v2, v3, v4, v5]
        rfl
      rw [hr]
    · cases h
/-- Is a member's total in the book just this? -/
def balB (L : List Tot) (m : Int) (t : Five) : Bool := match L[totAt L m]? with
  | none => false
  | some x => decide (x.2 = t)
theorem hit_bal (L : List Tot) (m : Int) (t : Five) : hitB L (m, t) = balB L m t := by
  unfold hitB balB
  show (match L[totAt L m]? with | none => false | some x => decide (x = (m, t))) = _
  cases e : L[totAt L m]? with
  | none => rfl
  | some x =>
    have hx : x.1 = m := by
      obtain ⟨hi, rfl⟩ := List.getElem?_eq_some_iff.1 e
      have := List.findIdx_getElem (p := fun x : Tot => decide (x.1 = m)) (w := hi)
      exact of_decide_eq_true this
    obtain ⟨a, b⟩ := x
    obtain rfl : a = m := hx
    simp
theorem ans_true {F : Flds} {t : Five} (h : readR 500 F = ([t.1, t.2.1, t.2.2.1, t.2.2.2.1, t.2.2.2.2], 0)) (L : List Tot) (m : Int) : ansOf 500 F m true L = if balB L m t then ⟨#[48, 48]⟩ else ⟨#[57, 53]⟩ := by
  unfold ansOf
  rw [h, if_neg (by simp), Bool.true_and, show totOf m [t.1, t.2.1, t.2.2.1, t.2.2.2.1, t.2.2.2.2] = (m, t) from rfl, hit_bal]
theorem ans_false {F : Flds} {t : Five} (h : readR 500 F = ([t.1, t.2.1, t.2.2.1, t.2.2.2.1, t.2.2.2.2], 0)) (L : List Tot) (m : Int) : ansOf 500 F m false L = ⟨#[57, 53]⟩ := by
  unfold ansOf
  rw [h, if_neg (by simp), Bool.false_and]
  rfl
end Go.Proofs.YtjndfmpicnkplaaDoor.msgw
