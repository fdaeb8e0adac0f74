/- For every message of bulk at most 1048576 the law LifeSame answers true. Conditions: the bulk, and that its numbers are of 64 bits. -/
import Derived.Test.YtihjielmmifbaaaOpsLifeSame
namespace Go.Proofs.Ytihjielmmifbaaa.Pure
open Go.RowKit Go.Proofs.Ytihjielmmifbaaa.PLifeSame Go.Proofs.Ytihjielmmifbaaa.opsLifeSame Go.Proofs.Ytihjielmmifbaaa.opens Go.Proofs.YtihjielmmifbaaaW.PrintWords Go.Proofs.YtihjielmmifbaaaW.PrintLast

theorem shown_true : groatlaw14_shown.f 30 = some true := by decide +kernel
theorem shown_up (n : Nat) : groatlaw14_shown.f (30 + n) = some true := by
  induction n with
  | zero => exact shown_true
  | succ m ih => exact groatlaw14_shown.mono (30 + m) _ ih

/-- What is found of a field's number. -/
def res (l : List S38) (no : Int) : ByteArray × Bool := match l.find? (fun x => decide (x.f0 = no)) with | some x => (x.f1, true) | none => ((⟨#[]⟩ : ByteArray), false)
theorem res_nil (no : Int) : res [] no = ((⟨#[]⟩ : ByteArray), false) := rfl
theorem res_cons (x : S38) (l : List S38) (no : Int) : res (x :: l) no = if x.f0 = no then (x.f1, true) else res l no := by
  by_cases e : x.f0 = no <;> simp [res, e]
theorem res_size (l : List S38) (no : Int) : (res l no).1.size ≤ sumOf μ38 l := by
  induction l with
  | nil => simp [res_nil, ByteArray.size]
  | cons x l ih =>
    rw [res_cons]
    simp only [sumOf, μ38]
    split
    · show x.f1.size ≤ _; omega
    · omega

theorem wrap_next {i : Int} {n : Nat} (h0 : 0 ≤ i) (h : i < (n : Int)) (hn : n ≤ 1048576) : wrap64 (i + 1) = i + 1 := by
  unfold wrap64
  omega
theorem drop_rd (l : List S38) (i : Int) (h0 : 0 ≤ i) (h : i < (l.length : Int)) : l.drop i.toNat = rd_T38 l i :: l.drop (i + 1).toNat := by
  have h1 : i.toNat < l.length := by omega
  rw [List.drop_eq_getElem_cons h1, show (i + 1).toNat = i.toNat + 1 by omega]
  simp [rd_T38, h1]
theorem drop_rdi (l : List Int) (i : Int) (h0 : 0 ≤ i) (h : i < (l.length : Int)) : l.drop i.toNat = rd l i :: l.drop (i + 1).toNat := by
  have h1 : i.toNat < l.length := by omega
  rw [List.drop_eq_getElem_cons h1, show (i + 1).toNat = i.toNat + 1 by omega]
  simp [rd, h1]

theorem get_loop (l : List S38) (no : Int) (hl : l.length ≤ 1048576) (d : Nat) : ∀ (k : Nat) (i : Int), 0 ≤ i → (l.length : Int) - i = d → d < k →
    message_Get.l0 k no l l.length i = some (res (l.drop i.toNat) no) := by
  induction d with
  | zero =>
    intro k i h0 hd hk
    obtain ⟨k, rfl⟩ : ∃ m, k = m + 1 := ⟨k - 1, by omega⟩
    rw [message_Get.l0, if_neg (by omega), List.drop_of_length_le (by omega)]
    rfl
  | succ d ih =>
    intro k i h0 hd hk
    obtain ⟨k, rfl⟩ : ∃ m, k = m + 1 := ⟨k - 1, by omega⟩
    have hlt : i < (l.length : Int) := by omega
    rw [message_Get.l0, if_pos hlt, if_pos h0, if_pos hlt, drop_rd l i h0 hlt, res_cons]
    by_cases e : (rd_T38 l i).f0 = no
    · rw [if_pos e, if_pos e]
    · rw [if_neg e, if_neg e, wrap_next h0 hlt hl]
      exact ih k (i + 1) (by omega) (by omega) (by omega)
theorem get_any (t : Int) (l : List S38) (no : Int) (hl : l.length ≤ 1048576) (k : Nat) (hk : l.length < k) : message_Get.f k t l no = some (res l no) := by
  unfold message_Get.f
  exact get_loop l no hl l.length k 0 (by omega) (by omega) hk

/-- The texts of fields, one behind the other. -/
def txs (l : List S38) : List Int → List ByteArray → List ByteArray × Bool
  | [], acc => (acc, true)
  | n :: ns, acc => if (res l n).2 = true then txs l ns (acc ++ [(res l n).1]) else ([], false)
theorem texts_loop (t : Int) (l : List S38) (hl : l.length ≤ 1048576) (nos : List Int) (hn : nos.length ≤ 1000) (d : Nat) : ∀ (k : Nat) (i : Int) (acc : List ByteArray), 0 ≤ i → (nos.length : Int) - i = d → d + l.length + 1 < k → acc.length + d ≤ 1000 →
    life_texts.l0 k acc nos nos.length i t l = some (txs l (nos.drop i.toNat) acc) := by
  induction d with
  | zero =>
    intro k i acc h0 hd hk ha
    obtain ⟨k, rfl⟩ : ∃ m, k = m + 1 := ⟨k - 1, by omega⟩
    rw [life_texts.l0, if_neg (by omega), List.drop_of_length_le (by omega)]
    rfl
  | succ d ih =>
    intro k i acc h0 hd hk ha
    obtain ⟨k, rfl⟩ : ∃ m, k = m + 1 := ⟨k - 1, by omega⟩
    have hlt : i < (nos.length : Int) := by omega
    rw [life_texts.l0, if_pos hlt, if_pos h0, if_pos hlt, get_any t l _ hl k (by omega), drop_rdi nos i h0 hlt]
    simp only [Option.bind_some, txs]
    by_cases e : (res l (rd nos i)).2 = true
    · rw [if_pos e, if_pos e, if_pos (by omega), wrap_next h0 hlt (by omega)]
      exact ih k (i + 1) _ (by omega) (by omega) (by omega) (by simp; omega)
    · rw [if_neg e, if_neg e]
theorem texts_any (t : Int) (l : List S38) (hl : l.length ≤ 1048576) (nos : List Int) (hn : nos.length ≤ 1000) (k : Nat) (hk : nos.length + l.length + 1 < k) : life_texts.f k t l nos = some (txs l nos []) := by
  unfold life_texts.f
  exact texts_loop t l hl nos hn nos.length k 0 [] (by omega) (by omega) hk (by simp; omega)

/-- A key: three texts with points between. -/
def keyR (l : List S38) : ByteArray × Int :=
  if (res l 32).2 = true ∧ (res l 11).2 = true ∧ (res l 7).2 = true then
    (⟨((res l 32).1.data.toList ++ [46] ++ (res l 11).1.data.toList ++ [46] ++ (res l 7).1.data.toList).toArray⟩, 0) else ((⟨#[]⟩ : ByteArray), 160)
theorem key_any (t : Int) (l : List S38) (hl : l.length ≤ 1048576) (hs : sumOf μ38 l ≤ 1048576) (k : Nat) (hk : l.length + 4 < k) : life_Key.f k t l = some (keyR l) := by
  unfold life_Key.f
  rw [texts_any t l hl [32, 11, 7] (by simp) k (by simp; omega)]
  simp only [Option.bind_some, txs, keyR]
  have s1 := res_size l 32
  have s2 := res_size l 11
  have s3 := res_size l 7
  by_cases e1 : (res l 32).2 = true
  · by_cases e2 : (res l 11).2 = true
    · by_cases e3 : (res l 7).2 = true
      · simp only [e1, e2, e3, if_true, and_self]
        unfold strings_Join.f
        have ej : Lib.join (([] ++ [(res l 32).1] ++ [(res l 11).1] ++ [(res l 7).1]).map (fun b : ByteArray => b.data.toList)) (⟨#[46]⟩ : ByteArray).data.toList = (res l 32).1.data.toList ++ [46] ++ (res l 11).1.data.toList ++ [46] ++ (res l 7).1.data.toList := by
          simp [Lib.join, List.intercalate]
        rw [ej, if_pos]
        · rfl
        · have z : ∀ b : ByteArray, b.data.toList.length = b.size := fun b => by simp
          simp only [List.length_append, z, List.length_cons, List.length_nil]
          omega
      · simp [e1, e2, e3]
    · simp [e1, e2]
  · simp [e1]

theorem alike_loop (t t' : Int) (l : List S38) (hl : l.length ≤ 1048576) (nos : List Int) (hn : nos.length ≤ 1000) (d : Nat) : ∀ (k : Nat) (i : Int), 0 ≤ i → (nos.length : Int) - i = d → d + l.length + 1 < k →
    life_Alike.l0 k nos nos.length i t l t' l = some true := by
  induction d with
  | zero =>
    intro k i h0 hd hk
    obtain ⟨k, rfl⟩ : ∃ m, k = m + 1 := ⟨k - 1, by omega⟩
    rw [life_Alike.l0, if_neg (by omega)]
  | succ d ih =>
    intro k i h0 hd hk
    obtain ⟨k, rfl⟩ : ∃ m, k = m + 1 := ⟨k - 1, by omega⟩
    have hlt : i < (nos.length : Int) := by omega
    rw [life_Alike.l0, if_pos hlt, if_pos h0, if_pos hlt, get_any t l _ hl k (by omega), get_any t' l _ hl k (by omega)]
    simp only [Option.bind_some, if_true]
    rw [if_neg (by simp), wrap_next h0 hlt (by omega)]
    exact ih k (i + 1) (by omega) (by omega) (by omega)
theorem alike_any (t t' : Int) (l : List S38) (hl : l.length ≤ 1048576) (k : Nat) (hk : l.length + 8 < k) (ht : wrap64 (Int.tdiv t 10) = wrap64 (Int.tdiv t' 10)) : life_Alike.f k t l t' l = some true := by
  unfold life_Alike.f
  rw [if_pos ht]
  simp only [Option.bind_some]
  exact alike_loop t t' l hl _ (by simp) 7 k 0 (by omega) (by simp) (by omega)
theorem type_again (a : Int) (h0 : 0 ≤ a) (h1 : a ≤ 9223372036854775807) : wrap64 (Int.tdiv a 10) = wrap64 (Int.tdiv (wrap64 ((wrap64 ((wrap64 (Int.tdiv a 10)) * 10)) + 1)) 10) := by
  have e : Int.tdiv a 10 = a / 10 := Int.tdiv_eq_ediv_of_nonneg h0
  have q0 : 0 ≤ a / 10 := by omega
  have w1 : wrap64 (a / 10) = a / 10 := by unfold wrap64; omega
  have w2 : wrap64 (a / 10 * 10) = a / 10 * 10 := by unfold wrap64; omega
  have w3 : wrap64 (a / 10 * 10 + 1) = a / 10 * 10 + 1 := by unfold wrap64; omega
  rw [e, w1, w2, w3, Int.tdiv_eq_ediv_of_nonneg (by omega)]
  have e2 : (a / 10 * 10 + 1) / 10 = a / 10 := by omega
  rw [e2, w1]

theorem LifeSame : Pure2 := by
  intro m hG hm
  obtain ⟨a, l⟩ := m
  obtain ⟨hw, _⟩ := hG
  simp only [μ32] at hm
  have hw' : -9223372036854775808 ≤ a ∧ a ≤ 9223372036854775807 := by simpa [Lit.wf, IntKind.min, IntKind.max, IntKind.signed, IntKind.bits] using hw
  have hlen : l.length ≤ sumOf μ38 l := sumOf_length μ38 (fun a => by simp only [μ38]; omega) l
  refine ⟨30 + (l.length + 30), ?_⟩
  show groatlaw14_LifeSame.f (30 + (l.length + 30)) a l = some true
  unfold groatlaw14_LifeSame.f
  rw [shown_up]
  simp only [Option.bind_some, List.nil_append, List.length_nil]
  rw [if_pos (by omega)]
  by_cases h0 : a < 0
  · rw [if_pos h0]
  · rw [if_neg h0, key_any _ l (by omega) (by omega) _ (by omega), key_any _ l (by omega) (by omega) _ (by omega)]
    simp only [Option.bind_some, if_true]
    rw [alike_any _ _ l (by omega) _ (by omega) (type_again a (by omega) hw'.2), alike_any _ _ l (by omega) _ (by omega) rfl]
    simp

end Go.Proofs.Ytihjielmmifbaaa.Pure
