/- For all two messages of bulk at most 1048576 together the law LifeKeys answers true. Conditions: the bulk, and that their numbers are of 64 bits. -/
import Derived.Test.YtihjielmmifbaaaOpsLifeKeys
namespace Go.Proofs.Ytihjielmmifbaaa.Pure
open Go.RowKit Go.Proofs.Ytihjielmmifbaaa.PLifeKeys Go.Proofs.Ytihjielmmifbaaa.opsLifeKeys Go.Proofs.Ytihjielmmifbaaa.opens Go.Proofs.YtihjielmmifbaaaW.PrintWords Go.Proofs.YtihjielmmifbaaaW.PrintLast

theorem shown_true : groatlaw14_shown.f 30 = some true := by decide +kernel
theorem shown_up (n : Nat) : groatlaw14_shown.f (30 + n) = some true := by
  induction n with
  | zero => exact shown_true
  | succ m ih => exact groatlaw14_shown.mono (30 + m) _ ih

/-- What is found of a field's number. -/
def res (l : List S38) (no : Int) : ByteArray × Bool := match l.find? (fun x => decide (x.f0 = no)) with | some x => (x.f1, true) | none => ((⟨#[]⟩ : ByteArray), false)
theorem res_nil (no : Int) : res [] no = ((⟨#[]⟩ : ByteArray), false) := rfl
theorem res_cons (x : S38) (l : List S38) (no : Int) : res (x :: l) no = if x.f0 = no then (x.f1, true) else res l no := by
  by_cases e : x.f0 = no <;> simp [res, e]
theorem res_size (l : List S38) (no : Int) : (res l no).1.size ≤ sumOf μ38 l := by
  induction l with
  | nil => simp [res_nil, ByteArray.size]
  | cons x l ih =>
    rw [res_cons]
    simp only [sumOf, μ38]
    split
    · show x.f1.size ≤ _; omega
    · omega

theorem wrap_next {i : Int} {n : Nat} (h0 : 0 ≤ i) (h : i < (n : Int)) (hn : n ≤ 1048576) : wrap64 (i + 1) = i + 1 := by
  unfold wrap64
  omega
theorem drop_rd (l : List S38) (i : Int) (h0 : 0 ≤ i) (h : i < (l.length : Int)) : l.drop i.toNat = rd_T38 l i :: l.drop (i + 1).toNat := by
  have h1 : i.toNat < l.length := by omega
  rw [List.drop_eq_getElem_cons h1, show (i + 1).toNat = i.toNat + 1 by omega]
  simp [rd_T38, h1]
theorem drop_rdi (l : List Int) (i : Int) (h0 : 0 ≤ i) (h : i < (l.length : Int)) : l.drop i.toNat = rd l i :: l.drop (i + 1).toNat := by
  have h1 : i.toNat < l.length := by omega
  rw [List.drop_eq_getElem_cons h1, show (i + 1).toNat = i.toNat + 1 by omega]
  simp [rd, h1]

theorem get_loop (l : List S38) (no : Int) (hl : l.length ≤ 1048576) (d : Nat) : ∀ (k : Nat) (i : Int), 0 ≤ i → (l.length : Int) - i = d → d < k →
    message_Get.l0 k no l l.length i = some (res (l.drop i.toNat) no) := by
  induction d with
  | zero =>
    intro k i h0 hd hk
    obtain ⟨k, rfl⟩ : ∃ m, k = m + 1 := ⟨k - 1, by omega⟩
    rw [message_Get.l0, if_neg (by omega), List.drop_of_length_le (by omega)]
    rfl
  | succ d ih =>
    intro k i h0 hd hk
    obtain ⟨k, rfl⟩ : ∃ m, k = m + 1 := ⟨k - 1, by omega⟩
    have hlt : i < (l.length : Int) := by omega
    rw [message_Get.l0, if_pos hlt, if_pos h0, if_pos hlt, drop_rd l i h0 hlt, res_cons]
    by_cases e : (rd_T38 l i).f0 = no
    · rw [if_pos e, if_pos e]
    · rw [if_neg e, if_neg e, wrap_next h0 hlt hl]
      exact ih k (i + 1) (by omega) (by omega) (by omega)
theorem get_any (t : Int) (l : List S38) (no : Int) (hl : l.length ≤ 1048576) (k : Nat) (hk : l.length < k) : message_Get.f k t l no = some (res l no) := by
  unfold message_Get.f
  exact get_loop l no hl l.length k 0 (by omega) (by omega) hk

/-- The texts of fields, one behind the other. -/
def txs (l : List S38) : List Int → List ByteArray → List ByteArray × Bool
  | [], acc => (acc, true)
  | n :: ns, acc => if (res l n).2 = true then txs l ns (acc ++ [(res l n).1]) else ([], false)
theorem texts_loop (t : Int) (l : List S38) (hl : l.length ≤ 1048576) (nos : List Int) (hn : nos.length ≤ 1000) (d : Nat) : ∀ (k : Nat) (i : Int) (acc : List ByteArray), 0 ≤ i → (nos.length : Int) - i = d → d + l.length + 1 < k → acc.length + d ≤ 1000 →
    life_texts.l0 k acc nos nos.length i t l = some (txs l (nos.drop i.toNat) acc) := by
  induction d with
  | zero =>
    intro k i acc h0 hd hk ha
    obtain ⟨k, rfl⟩ : ∃ m, k = m + 1 := ⟨k - 1, by omega⟩
    rw [life_texts.l0, if_neg (by omega), List.drop_of_length_le (by omega)]
    rfl
  | succ d ih =>
    intro k i acc h0 hd hk ha
    obtain ⟨k, rfl⟩ : ∃ m, k = m + 1 := ⟨k - 1, by omega⟩
    have hlt : i < (nos.length : Int) := by omega
    rw [life_texts.l0, if_pos hlt, if_pos h0, if_pos hlt, get_any t l _ hl k (by omega), drop_rdi nos i h0 hlt]
    simp only [Option.bind_some, txs]
    by_cases e : (res l (rd nos i)).2 = true
    · rw [if_pos e, if_pos e, if_pos (by omega), wrap_next h0 hlt (by omega)]
      exact ih k (i + 1) _ (by omega) (by omega) (by omega) (by simp; omega)
    · rw [if_neg e, if_neg e]
theorem texts_any (t : Int) (l : List S38) (hl : l.length ≤ 1048576) (nos : List Int) (hn : nos.length ≤ 1000) (k : Nat) (hk : nos.length + l.length + 1 < k) : life_texts.f k t l nos = some (txs l nos []) := by
  unfold life_texts.f
  exact texts_loop t l hl nos hn nos.length k 0 [] (by omega) (by omega) hk (by simp; omega)

/-- A key: three texts with points between. -/
def keyR (l : List S38) : ByteArray × Int :=
  if (res l 32).2 = true ∧ (res l 11).2 = true ∧ (res l 7).2 = true then
    (⟨((res l 32).1.data.toList ++ [46] ++ (res l 11).1.data.toList ++ [46] ++ (res l 7).1.data.toList).toArray⟩, 0) else ((⟨#[]⟩ : ByteArray), 160)
theorem key_any (t : Int) (l : List S38) (hl : l.length ≤ 1048576) (hs : sumOf μ38 l ≤ 1048576) (k : Nat) (hk : l.length + 4 < k) : life_Key.f k t l = some (keyR l) := by
  unfold life_Key.f
  rw [texts_any t l hl [32, 11, 7] (by simp) k (by simp; omega)]
  simp only [Option.bind_some, txs, keyR]
  have s1 := res_size l 32
  have s2 := res_size l 11
  have s3 := res_size l 7
  by_cases e1 : (res l 32).2 = true
  · by_cases e2 : (res l 11).2 = true
    · by_cases e3 : (res l 7).2 = true
      · simp only [e1, e2, e3, if_true, and_self]
        unfold strings_Join.f
        have ej : Lib.join (([] ++ [(res l 32).1] ++ [(res l 11).1] ++ [(res l 7).1]).map (fun b : ByteArray => b.data.toList)) (⟨#[46]⟩ : ByteArray).data.toList = (res l 32).1.data.toList ++ [46] ++ (res l 11).1.data.toList ++ [46] ++ (res l 7).1.data.toList := by
          simp [Lib.join, List.intercalate]
        rw [ej, if_pos]
        · rfl
        · have z : ∀ b : ByteArray, b.data.toList.length = b.size := fun b => by simp
          simp only [List.length_append, z, List.length_cons, List.length_nil]
          omega
      · simp [e1, e2, e3]
    · simp [e1, e2]
  · simp [e1]

theorem rget_loop (t : Int) (l : List S38) (no : Int) (hl : l.length ≤ 1048576) (d : Nat) : ∀ (k : Nat) (i : Int), 0 ≤ i → (l.length : Int) - i = d → d < k →
    groatref05_Get.l0 k no i t l = some (res (l.drop i.toNat) no) := by
  induction d with
  | zero =>
    intro k i h0 hd hk
    obtain ⟨k, rfl⟩ : ∃ m, k = m + 1 := ⟨k - 1, by omega⟩
    rw [groatref05_Get.l0, if_neg (by omega), List.drop_of_length_le (by omega)]
    rfl
  | succ d ih =>
    intro k i h0 hd hk
    obtain ⟨k, rfl⟩ : ∃ m, k = m + 1 := ⟨k - 1, by omega⟩
    have hlt : i < (l.length : Int) := by omega
    rw [groatref05_Get.l0, if_pos hlt, if_pos h0, drop_rd l i h0 hlt, res_cons]
    by_cases e : (rd_T38 l i).f0 = no
    · rw [if_pos e, if_pos e]
    · rw [if_neg e, if_neg e, wrap_next h0 hlt hl]
      exact ih k (i + 1) (by omega) (by omega) (by omega)
theorem rget_any (t : Int) (l : List S38) (no : Int) (hl : l.length ≤ 1048576) (k : Nat) (hk : l.length < k) : groatref05_Get.f k t l no = some (res l no) := by
  unfold groatref05_Get.f
  exact rget_loop t l no hl l.length k 0 (by omega) (by omega) hk

theorem ba_ext {a b : ByteArray} (h : a.data.toList = b.data.toList) : a = b := by
  cases a; cases b
  simp only [ByteArray.mk.injEq]
  exact Array.ext' h

theorem rkey_any (t : Int) (l : List S38) (hl : l.length ≤ 1048576) (hs : sumOf μ38 l ≤ 1048576) (k : Nat) (hk : l.length + 4 < k) : groatref14_Key.f k t l = some (keyR l) := by
  unfold groatref14_Key.f
  rw [rget_any t l _ hl k (by omega), rget_any t l _ hl k (by omega), rget_any t l _ hl k (by omega)]
  simp only [Option.bind_some, keyR]
  have s1 := res_size l 32
  have s2 := res_size l 11
  have s3 := res_size l 7
  have z1 : (⟨#[46]⟩ : ByteArray).size = 1 := rfl
  by_cases e1 : (res l 32).2 = true
  · by_cases e2 : (res l 11).2 = true
    · by_cases e3 : (res l 7).2 = true
      · simp only [e1, e2, e3, if_true, and_self]
        rw [if_pos (by omega), if_pos (by simp only [ByteArray.size_append, z1]; omega), if_pos (by simp only [ByteArray.size_append, z1]; omega), if_pos (by simp only [ByteArray.size_append, z1]; omega)]
        congr 2
      · simp [e1, e2, e3]
    · simp [e1, e2]
  · simp [e1]

/-- An original's key. -/
def origR (l : List S38) : ByteArray × Int :=
  if (res l 32).2 = true ∧ (res l 90).2 = true ∧ (res l 90).1.size = 20 then
    (((res l 32).1 ++ ⟨#[46]⟩ ++ (res l 90).1.extract 4 10 ++ ⟨#[46]⟩ ++ (res l 90).1.extract 10 20), 0) else ((⟨#[]⟩ : ByteArray), 160)
theorem ext_le (b : ByteArray) (i j : Nat) : (b.extract i j).size ≤ b.size := by
  rw [ByteArray.size_extract]; omega
theorem orig_any (t : Int) (l : List S38) (hl : l.length ≤ 1048576) (hs : sumOf μ38 l ≤ 1048576) (k : Nat) (hk : l.length + 4 < k) : life_Original.f k t l = some (origR l) := by
  unfold life_Original.f
  rw [texts_any t l hl [32, 90] (by simp) k (by simp; omega)]
  simp only [Option.bind_some, txs, origR]
  have s1 := res_size l 32
  have s2 := res_size l 90
  have z1 : (⟨#[46]⟩ : ByteArray).size = 1 := rfl
  by_cases e1 : (res l 32).2 = true
  · by_cases e2 : (res l 90).2 = true
    · simp only [e1, e2, if_true, true_and]
      have r0 : rdOf ByteArray.empty ([] ++ [(res l 32).1] ++ [(res l 90).1]) 0 = (res l 32).1 := rfl
      have r1 : rdOf ByteArray.empty ([] ++ [(res l 32).1] ++ [(res l 90).1]) 1 = (res l 90).1 := rfl
      have hlen : (([] ++ [(res l 32).1] ++ [(res l 90).1]).length : Int) = 2 := rfl
      rw [r0, r1, hlen, if_pos (by omega)]
      by_cases e3 : (res l 90).1.size = 20
      · have x1 := ext_le (res l 90).1 4 10
        have x2 := ext_le (res l 90).1 10 (res l 90).1.size
        have e4 : ((res l 90).1.size : Int) = 20 := by omega
        rw [if_pos e4, if_pos (by omega), if_pos (by omega), if_pos (by omega), if_pos (by omega), if_pos (by simp only [ByteArray.size_append, z1]; omega), if_pos (by simp only [ByteArray.size_append, z1]; omega), if_pos (by simp only [ByteArray.size_append, z1]; omega), e3]
        simp
      · have e4 : ¬ ((res l 90).1.size : Int) = 20 := by omega
        rw [if_neg e4]
        simp [e3]
    · simp [e1, e2]
  · simp [e1]
theorem rorig_any (t : Int) (l : List S38) (hl : l.length ≤ 1048576) (hs : sumOf μ38 l ≤ 1048576) (k : Nat) (hk : l.length + 4 < k) : groatref14_Original.f k t l = some (origR l) := by
  unfold groatref14_Original.f
  rw [rget_any t l _ hl k (by omega), rget_any t l _ hl k (by omega)]
  simp only [Option.bind_some, origR]
  have s1 := res_size l 32
  have s2 := res_size l 90
  have z1 : (⟨#[46]⟩ : ByteArray).size = 1 := rfl
  by_cases e1 : (res l 32).2 = true
  · by_cases e2 : (res l 90).2 = true
    · simp only [e1, e2, if_true, true_and]
      by_cases e3 : (res l 90).1.size = 20
      · have x1 := ext_le (res l 90).1 4 10
        have x2 := ext_le (res l 90).1 10 20
        have e4 : ((res l 90).1.size : Int) = 20 := by omega
        rw [if_pos e4, if_pos (by omega), if_pos (by omega), if_pos (by omega), if_pos (by simp only [ByteArray.size_append, z1]; omega), if_pos (by simp only [ByteArray.size_append, z1]; omega), if_pos (by omega), if_pos (by omega), if_pos (by simp only [ByteArray.size_append, z1]; omega)]
        simp [e3]
      · have e4 : ¬ ((res l 90).1.size : Int) = 20 := by omega
        rw [if_neg e4]
        simp [e3]
    · simp [e1, e2]
  · simp [e1]

/-- Alike, over the fields' numbers. -/
def alk (a b : List S38) : List Int → Bool
  | [] => true
  | n :: ns => if (res a n).1.toList = (res b n).1.toList then (if ((res a n).2 != (res b n).2) = true then false else alk a b ns) else false
theorem alk_comm (a b : List S38) (ns : List Int) : alk a b ns = alk b a ns := by
  induction ns with
  | nil => rfl
  | cons n ns ih =>
    simp only [alk]
    rw [ih, show ((res a n).2 != (res b n).2) = ((res b n).2 != (res a n).2) from bne_comm]
    by_cases e : (res a n).1.toList = (res b n).1.toList
    · rw [if_pos e, if_pos e.symm]
    · rw [if_neg e, if_neg (fun h => e h.symm)]
theorem alike_loop (t t' : Int) (a b : List S38) (ha : a.length ≤ 1048576) (hb : b.length ≤ 1048576) (nos : List Int) (hn : nos.length ≤ 1000) (d : Nat) : ∀ (k : Nat) (i : Int), 0 ≤ i → (nos.length : Int) - i = d → d + a.length + b.length + 1 < k →
    life_Alike.l0 k nos nos.length i t a t' b = some (alk a b (nos.drop i.toNat)) := by
  induction d with
  | zero =>
    intro k i h0 hd hk
    obtain ⟨k, rfl⟩ : ∃ m, k = m + 1 := ⟨k - 1, by omega⟩
    rw [life_Alike.l0, if_neg (by omega), List.drop_of_length_le (by omega)]
    rfl
  | succ d ih =>
    intro k i h0 hd hk
    obtain ⟨k, rfl⟩ : ∃ m, k = m + 1 := ⟨k - 1, by omega⟩
    have hlt : i < (nos.length : Int) := by omega
    rw [life_Alike.l0, if_pos hlt, if_pos h0, if_pos hlt, get_any t a _ ha k (by omega), get_any t' b _ hb k (by omega), drop_rdi nos i h0 hlt]
    simp only [Option.bind_some, alk]
    rw [wrap_next h0 hlt (by omega), ih k (i + 1) (by omega) (by omega) (by omega)]
    (repeat' split) <;> rfl
theorem ralike_loop (t t' : Int) (a b : List S38) (ha : a.length ≤ 1048576) (hb : b.length ≤ 1048576) (nos : List Int) (hn : nos.length ≤ 1000) (d : Nat) : ∀ (k : Nat) (i : Int), 0 ≤ i → (nos.length : Int) - i = d → d + a.length + b.length + 1 < k →
    groatref14_Alike.l0 k nos i t a t' b = some (alk a b (nos.drop i.toNat)) := by
  induction d with
  | zero =>
    intro k i h0 hd hk
    obtain ⟨k, rfl⟩ : ∃ m, k = m + 1 := ⟨k - 1, by omega⟩
    rw [groatref14_Alike.l0, if_neg (by omega), List.drop_of_length_le (by omega)]
    rfl
  | succ d ih =>
    intro k i h0 hd hk
    obtain ⟨k, rfl⟩ : ∃ m, k = m + 1 := ⟨k - 1, by omega⟩
    have hlt : i < (nos.length : Int) := by omega
    rw [groatref14_Alike.l0, if_pos hlt, if_pos h0, rget_any t a _ ha k (by omega), rget_any t' b _ hb k (by omega), drop_rdi nos i h0 hlt]
    simp only [Option.bind_some, alk]
    rw [wrap_next h0 hlt (by omega), ih k (i + 1) (by omega) (by omega) (by omega)]
    (repeat' split) <;> rfl
def alikeR (t : Int) (a : List S38) (t' : Int) (b : List S38) : Bool := if wrap64 (Int.tdiv t 10) = wrap64 (Int.tdiv t' 10) then alk a b [2, 3, 4, 7, 11, 32, 49] else false
theorem alikeR_comm (t : Int) (a : List S38) (t' : Int) (b : List S38) : alikeR t a t' b = alikeR t' b t a := by
  unfold alikeR
  rw [alk_comm]
  by_cases e : wrap64 (Int.tdiv t 10) = wrap64 (Int.tdiv t' 10)
  · rw [if_pos e, if_pos e.symm]
  · rw [if_neg e, if_neg (fun h => e h.symm)]
theorem alike_any (t t' : Int) (a b : List S38) (ha : a.length ≤ 1048576) (hb : b.length ≤ 1048576) (k : Nat) (hk : a.length + b.length + 8 < k) : life_Alike.f k t a t' b = some (alikeR t a t' b) := by
  unfold life_Alike.f alikeR
  split
  · simp only [Option.bind_some]
    exact alike_loop t t' a b ha hb _ (by simp) 7 k 0 (by omega) (by simp) (by omega)
  · rfl
theorem ralike_any (t t' : Int) (a b : List S38) (ha : a.length ≤ 1048576) (hb : b.length ≤ 1048576) (k : Nat) (hk : a.length + b.length + 8 < k) : groatref14_Alike.f k t a t' b = some (alikeR t a t' b) := by
  unfold groatref14_Alike.f alikeR
  split
  · exact ralike_loop t t' a b ha hb _ (by simp) 7 k 0 (by omega) (by simp) (by omega)
  · rfl

theorem LifeKeys : Pure2 := by
  intro m n hG hG' hm
  obtain ⟨a, l⟩ := m
  obtain ⟨b, l'⟩ := n
  simp only [μ32] at hm
  have hlen : l.length ≤ sumOf μ38 l := sumOf_length μ38 (fun a => by simp only [μ38]; omega) l
  have hlen' : l'.length ≤ sumOf μ38 l' := sumOf_length μ38 (fun a => by simp only [μ38]; omega) l'
  refine ⟨30 + (l.length + l'.length + 100), ?_⟩
  show groatlaw14_LifeKeys.f (30 + (l.length + l'.length + 100)) a l b l' = some true
  unfold groatlaw14_LifeKeys.f
  rw [shown_up, key_any a l (by omega) (by omega) _ (by omega), rkey_any a l (by omega) (by omega) _ (by omega), orig_any a l (by omega) (by omega) _ (by omega), rorig_any a l (by omega) (by omega) _ (by omega),
    alike_any a b l l' (by omega) (by omega) _ (by omega), ralike_any a b l l' (by omega) (by omega) _ (by omega), alike_any b a l' l (by omega) (by omega) _ (by omega), alikeR_comm b l' a l]
  simp

end Go.Proofs.Ytihjielmmifbaaa.Pure
