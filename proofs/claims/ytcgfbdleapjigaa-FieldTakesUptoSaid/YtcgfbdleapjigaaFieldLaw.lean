/- Plain laws of layer 4. No walk. -/
import Derived.Test.YtcgfbdleapjigaaFieldK
import Derived.Test.YtcgfbdleapjigaaFieldPlain
import Derived.Test.YtcgfbdleapjigaaWWords
namespace Go.Proofs.Ytcgfbdleapjigaa.fieldl
open Go Go.Proofs.Ytcgfbdleapjigaa.fieldp Go.Proofs.Ytcgfbdleapjigaa.fieldw

/-- A row without two bytes alike. -/
def Row (t : List UInt8) : Prop := ∀ i : Nat, i < t.length → Lib.indexByte t (t.getD i 0) = (i : Int)
theorem index_get {fr : List UInt8} {c : UInt8} (h : Lib.indexByte fr c ≠ -1) : ∃ i : Nat, Lib.indexByte fr c = (i : Int) ∧ i < fr.length ∧ fr.getD i 0 = c := by
  have h1 := Lib.indexByte_ge fr c
  have h2 := (Lib.indexByte_some (l := fr) (c := c) (o := (Lib.indexByte fr c).toNat) (by omega)).1
  refine ⟨(Lib.indexByte fr c).toNat, by omega, (List.getElem?_eq_some_iff.1 h2).1, ?_⟩
  rw [List.getD_eq_getElem?_getD, h2]
  rfl
theorem turn_back {fr tt : List UInt8} (hr : Row tt) (hl : fr.length ≤ tt.length) : ∀ {l a : List UInt8}, turnL fr tt l = some a → turnL tt fr a = some l
  | [], a, h => by simp [turnL] at h; subst h; rfl
  | c :: l, a, h => by
    simp only [turnL] at h
    split at h
    · cases h
    · rename_i hne
      obtain ⟨i, hi, hil, hc⟩ := index_get hne
      cases e : turnL fr tt l with
      | none => rw [e] at h; cases h
      | some b =>
        rw [e] at h
        simp only [Option.map_some, Option.some.injEq] at h
        subst h
        have ih := turn_back hr hl e
        rw [hi, Int.toNat_natCast]
        have hx := hr i (by omega)
        simp only [turnL]
        rw [hx, if_neg (by omega), ih, Int.toNat_natCast, hc]
        rfl
theorem turn_some {fr tt : List UInt8} : ∀ {l : List UInt8}, l.all (inRow fr) = true → ∃ a, turnL fr tt l = some a
  | [], _ => ⟨[], rfl⟩
  | c :: l, h => by
    simp only [List.all_cons, Bool.and_eq_true] at h
    obtain ⟨a, ha⟩ := turn_some h.2 (fr := fr) (tt := tt)
    have hc : Lib.indexByte fr c ≠ -1 := by simpa [inRow] using h.1
    exact ⟨_, by simp only [turnL]; rw [if_neg hc, ha]; rfl⟩

theorem hex_val : ∀ i : Nat, i < 16 → hv (hexd i) = i ∧ isHex (hexd i) := by
  have : ∀ i : Fin 16, hv (hexd i.1) = i.1 ∧ Lib.indexByte hexL (hexd i.1) ≠ -1 := by decide
  exact fun i hi => this ⟨i, hi⟩
theorem hexd_hv {c : UInt8} (h : isHex c) : hexd (hv c) = c := by
  obtain ⟨i, hi, hil, hc⟩ := index_get (fr := hexL) (c := c) h
  unfold hv hexd
  rw [hi, Int.toNat_natCast]
  exact hc
theorem two_hex (a b : Nat) (ha : a < 16) (hb : b < 16) : (16 * a + b).toUInt8.toNat / 16 = a ∧ (16 * a + b).toUInt8.toNat % 16 = b := by
  have : (16 * a + b).toUInt8.toNat = 16 * a + b := by
    simp only [Nat.toUInt8, UInt8.toNat_ofNat']
    omega
  omega
theorem unpack_pack : ∀ (n : Nat) (l : List UInt8), l.length = 2 * n → (∀ c ∈ l, isHex c) → unpackL (packE l) = l
  | 0, [], _, _ => rfl
  | n + 1, a :: b :: l, h, hx => by
    have ha := hx a (by simp)
    have hb := hx b (by simp)
    have ih := unpack_pack n l (by simp at h; omega) (fun c hc => hx c (by simp [hc]))
    have h2 := two_hex (hv a) (hv b) (hv_lt ha) (hv_lt hb)
    simp only [packE]
    rw [show ∀ (x : UInt8) (r : List UInt8), unpackL (x :: r) = hexd (x.toNat / 16) :: hexd (x.toNat % 16) :: unpackL r from fun x r => by simp [unpackL]]
    rw [h2.1, h2.2, ih, hexd_hv ha, hexd_hv hb]
  | n + 1, [_], h, _ => by simp at h; omega
  | n + 1, [], h, _ => by simp at h
theorem pack_unpack : ∀ (x : List UInt8), packE (unpackL x) = x
  | [] => rfl
  | c :: x => by
    rw [show unpackL (c :: x) = hexd (c.toNat / 16) :: hexd (c.toNat % 16) :: unpackL x from by simp [unpackL]]
    have h1 := c.toNat_lt
    simp only [packE]
    rw [(hex_val _ (by omega)).1, (hex_val _ (by omega)).1, pack_unpack x]
    congr 1
    apply UInt8.toNat_inj.1
    simp only [Nat.toUInt8, UInt8.toNat_ofNat']
    omega
theorem unpack_hex (x : List UInt8) : ∀ c ∈ unpackL x, isHex c := by
  intro c hc
  simp only [unpackL, List.mem_flatMap] at hc
  obtain ⟨a, _, hc⟩ := hc
  have := a.toNat_lt
  simp only [List.mem_cons, List.not_mem_nil, or_false] at hc
  rcases hc with rfl | rfl
  · exact (hex_val _ (by omega)).2
  · exact (hex_val _ (by omega)).2

/-- The bytes that a code writes. -/
def alpha : CK → List UInt8
  | .plain f _ => f.data.toList
  | .packed d => d.data.toList
/-- A code that can be read again. -/
def Good : CK → Prop
  | .plain f t => Row f.data.toList ∧ Row t.data.toList ∧ f.size = t.size
  | .packed d => ∀ c : UInt8, inRow d.data.toList c = true → isHex c
theorem put_len {ck : CK} (hg : Good ck) {l : List UInt8} (h : l.all (inRow (alpha ck)) = true) : ((ck.put l).length : Int) = ck.size l.length := by
  cases ck with
  | plain f t =>
    obtain ⟨a, ha⟩ := turn_some h (tt := t.data.toList)
    have ha' : turnL f.data.toList t.data.toList l = some a := ha
    show (((turnL f.data.toList t.data.toList l).getD []).length : Int) = (l.length : Int)
    rw [ha', Option.getD_some, turnL_length _ _ _ _ ha']
  | packed d =>
    show ((packE (evened l)).length : Int) = ((l.length : Int) + 1) / 2
    have he := evened_even l
    rw [packE_length ((evened l).length / 2) _ (by omega)]
    unfold evened
    split
    · simp only [List.length_cons]; omega
    · omega
theorem take_put {ck : CK} (hg : Good ck) {l : List UInt8} (h : l.all (inRow (alpha ck)) = true) : ck.take (ck.put l) l.length = some l := by
  cases ck with
  | plain f t =>
    obtain ⟨hf, ht, hs⟩ := hg
    obtain ⟨a, ha⟩ := turn_some h (tt := t.data.toList)
    have ha' : turnL f.data.toList t.data.toList l = some a := ha
    show turnL t.data.toList f.data.toList ((turnL f.data.toList t.data.toList l).getD []) = some l
    rw [ha', Option.getD_some]
    exact turn_back ht (by rw [size_list, size_list]; omega) ha'
  | packed d =>
    have hh : ∀ c ∈ l, isHex c := fun c hc => hg c (List.all_eq_true.1 h c hc)
    have hu : unpackL (packE (evened l)) = evened l := unpack_pack ((evened l).length / 2) _ (by have := evened_even l; omega) (evened_hex hh)
    have ho : ofB l d.data.toList l.length = true := by
      unfold ofB
      rw [show l.all (inRow d.data.toList) = true from h]
      simp
    show takePacked d.data.toList (packE (evened l)) l.length = some l
    unfold takePacked
    rw [hu]
    by_cases hodd : l.length % 2 = 1
    · rw [if_pos hodd, show evened l = 48 :: l from if_pos hodd]
      exact (if_pos rfl).trans (if_pos ho)
    · rw [if_neg hodd, show evened l = l from if_neg hodd]
      exact if_pos ho
theorem put_take {ck : CK} (hg : Good ck) {x t : List UInt8} {n : Int} (hl : (x.length : Int) = ck.size n) (h : ck.take x n = some t) : t.all (inRow (alpha ck)) = true ∧ ck.put t = x := by
  cases ck with
  | plain f t' =>
    obtain ⟨hf, ht, hs⟩ := hg
    have h' : turnL t'.data.toList f.data.toList x = some t := h
    have hb := turn_back hf (by rw [size_list, size_list]; omega) h'
    refine ⟨turnL_all _ _ (show t'.data.toList.length ≤ f.data.toList.length by rw [size_list, size_list]; omega) _ _ h', ?_⟩
    show (turnL f.data.toList t'.data.toList t).getD [] = x
    rw [hb]
    rfl
  | packed d =>
    have h' : takePacked d.data.toList x n.toNat = some t := h
    have hl' : (x.length : Int) = (n + 1) / 2 := hl
    have hu := unpackL_length x
    unfold takePacked at h'
    split at h'
    · rename_i hodd
      split at h'
      · rename_i hh
        split at h'
        · rename_i ho
          have ht : (unpackL x).tail = t := Option.some.inj h'
          rw [ht] at ho
          obtain ⟨h1, h2⟩ := ofB_all ho
          refine ⟨h1, ?_⟩
          show packE (evened t) = x
          have : evened t = unpackL x := by
            unfold evened
            rw [if_pos (by omega)]
            cases hx : unpackL x with
            | nil => rw [hx] at hh; cases hh
            | cons a r =>
              rw [hx] at hh ht
              simp only [List.head?_cons, Option.some.injEq] at hh
              simp only [List.tail_cons] at ht
              rw [hh, ht]
          rw [this, pack_unpack]
        · cases h'
      · cases h'
    · rename_i heven
      split at h'
      · rename_i ho
        have ht : unpackL x = t := Option.some.inj h'
        rw [ht] at ho
        obtain ⟨h1, h2⟩ := ofB_all ho
        refine ⟨h1, ?_⟩
        show packE (evened t) = x
        have : evened t = unpackL x := by
          unfold evened
          rw [if_neg (by omega), ht]
        rw [this, pack_unpack]
      · cases h'

set_option maxRecDepth 100000 in
theorem good_letters (c : Int) : Good (lettersC c) ∧ alpha (lettersC c) = signsL := by
  have h1 : ∀ i : Fin 37, Lib.indexByte signsL (signsL.getD i.1 0) = (i.1 : Int) := by decide
  have h2 : ∀ i : Fin 37, Lib.indexByte ebcB.data.toList (ebcB.data.toList.getD i.1 0) = (i.1 : Int) := by decide
  unfold lettersC
  split
  · exact ⟨⟨fun i h => h1 ⟨i, h⟩, fun i h => h1 ⟨i, h⟩, rfl⟩, rfl⟩
  · split
    · exact ⟨⟨fun i h => h1 ⟨i, h⟩, fun i h => h1 ⟨i, h⟩, rfl⟩, rfl⟩
    · exact ⟨⟨fun i h => h1 ⟨i, h⟩, fun i h => h2 ⟨i, h⟩, rfl⟩, rfl⟩
set_option maxRecDepth 100000 in
theorem good_digits (c : Int) : Good (digitsC c) ∧ alpha (digitsC c) = tenL := by
  have h1 : ∀ i : Fin 10, Lib.indexByte tenL (tenL.getD i.1 0) = (i.1 : Int) := by decide
  have h2 : ∀ i : Fin 10, Lib.indexByte eb10.data.toList (eb10.data.toList.getD i.1 0) = (i.1 : Int) := by decide
  unfold digitsC
  split
  · exact ⟨⟨fun i h => h1 ⟨i, h⟩, fun i h => h1 ⟨i, h⟩, rfl⟩, rfl⟩
  · split
    · exact ⟨fun c hc => ten_hex hc, rfl⟩
    · exact ⟨⟨fun i h => h1 ⟨i, h⟩, fun i h => h2 ⟨i, h⟩, rfl⟩, rfl⟩
set_option maxRecDepth 100000 in
theorem good_raw (c : Int) : Good (rawC c) ∧ alpha (rawC c) = hexL := by
  have h1 : ∀ i : Fin 16, Lib.indexByte hexL (hexL.getD i.1 0) = (i.1 : Int) := by decide
  have h2 : ∀ i : Fin 16, Lib.indexByte highB.data.toList (highB.data.toList.getD i.1 0) = (i.1 : Int) := by decide
  unfold rawC
  split
  · exact ⟨⟨fun i h => h1 ⟨i, h⟩, fun i h => h2 ⟨i, h⟩, rfl⟩, rfl⟩
  · exact ⟨fun c hc => show Lib.indexByte hexL c ≠ -1 from of_decide_eq_true hc, rfl⟩

/-! What stands at the front is read, and what is read stood at the front. -/
theorem next_put {ck : CK} (hg : Good ck) {l r : List UInt8} (h : l.all (inRow (alpha ck)) = true) {n : Int} (hn : (l.length : Int) = n) : nextL ck n (ck.put l ++ r) 0 = (l, r, 0) := by
  have hp := put_len hg h
  rw [hn] at hp
  have hs : (ck.size n).toNat = (ck.put l).length := by omega
  unfold nextL
  rw [if_neg (by decide), if_neg (by rw [List.length_append]; omega), hs, List.take_left, List.drop_left, ← hn, take_put hg h]
theorem next_short {ck : CK} {l : List UInt8} {n : Int} (h : (l.length : Int) < ck.size n) : nextL ck n l 0 = ([], l, 43) := by
  unfold nextL
  rw [if_neg (by decide), if_pos h]
theorem next_zero {ck : CK} (hg : Good ck) {l : List UInt8} {e n : Int} (hn : 0 ≤ n) (h : (nextL ck n l e).2.2 = 0) :
    e = 0 ∧ (nextL ck n l e).1.all (inRow (alpha ck)) = true ∧ ((nextL ck n l e).1.length : Int) = n ∧ l = ck.put (nextL ck n l e).1 ++ (nextL ck n l e).2.1 := by
  unfold nextL at h ⊢
  by_cases he : e = 0
  · rw [if_neg (by simpa using he)] at h ⊢
    by_cases hs : (l.length : Int) < ck.size n
    · rw [if_pos hs] at h; cases h
    · rw [if_neg hs] at h ⊢
      cases ht : ck.take (l.take (ck.size n).toNat) n with
      | none => rw [ht] at h; cases h
      | some t =>
        have hx : ((l.take (ck.size n).toNat).length : Int) = ck.size n := by
          have := size_nonneg ck hn
          rw [List.length_take]; omega
        obtain ⟨a, b⟩ := put_take hg hx ht
        refine ⟨he, a, fieldw.take_len hn hx ht, ?_⟩
        show l = ck.put t ++ l.drop _
        rw [b, List.take_append_drop]
  · rw [if_pos he] at h
    exact absurd h he
theorem told_size (n : Nat) : toldN (told n) = if n < 100 then (n : Int) else toldN (told n) := by
  split
  · rename_i h
    have : ∀ i : Fin 100, toldN (told i.1) = (i.1 : Int) := by decide
    exact this ⟨n, h⟩
  · rfl
theorem toldN_told {t : List UInt8} (h : t.all (inRow tenL) = true) (hl : t.length = 2) : told (toldN t).toNat = t := by
  obtain ⟨x, y, rfl⟩ : ∃ x y, t = [x, y] := by
    match t, hl with
    | [x, y], _ => exact ⟨x, y, rfl⟩
  simp only [List.all_cons, List.all_nil, Bool.and_true, Bool.and_eq_true] at h
  obtain ⟨i, hi, rfl⟩ := ten_val h.1
  obtain ⟨j, hj, rfl⟩ := ten_val h.2
  have : ∀ i j : Fin 10, told (toldN [UInt8.ofNat (48 + i.1), UInt8.ofNat (48 + j.1)]).toNat = [UInt8.ofNat (48 + i.1), UInt8.ofNat (48 + j.1)] := by decide
  exact this ⟨i, by omega⟩ ⟨j, by omega⟩
end Go.Proofs.Ytcgfbdleapjigaa.fieldl

namespace Go.Proofs.Ytcgfbdleapjigaa.fieldl
open Go Go.Proofs.Ytcgfbdleapjigaa.fieldp Go.Proofs.Ytcgfbdleapjigaa.fieldw

/-- A form that may be, and a right text for it. -/
def Fit (k n _c : Int) (l : List UInt8) : Prop := (1 ≤ n ∧ n ≤ 64) ∧
  ((k = 5 ∧ ∃ a r, l = a :: r ∧ [a].all (inRow signsL) = true ∧ r.all (inRow tenL) = true ∧ (r.length : Int) = n) ∨
   (k = 2 ∧ 0 < l.length ∧ (l.length : Int) ≤ n ∧ l.all (inRow tenL) = true) ∨
   (k = 1 ∧ l.all (inRow tenL) = true ∧ (l.length : Int) = n) ∨
   (k = 3 ∧ l.all (inRow signsL) = true ∧ (l.length : Int) = n) ∨
   (k = 4 ∧ l.all (inRow hexL) = true ∧ (l.length : Int) = 2 * n))
theorem fit_of {k n c : Int} {l : List UInt8} (h : checkR k n c l = 0) : Fit k n c l := by
  obtain ⟨hm, hr⟩ := check_zero h
  have hm' : 1 ≤ k ∧ k ≤ 5 ∧ 1 ≤ n ∧ n ≤ 64 ∧ 1 ≤ c ∧ c ≤ 3 := by simpa [mayB] using hm
  refine ⟨⟨by omega, by omega⟩, ?_⟩
  unfold rightB at hr
  split at hr
  · rename_i h5
    left
    refine ⟨h5, ?_⟩
    cases l with
    | nil => cases hr
    | cons a r =>
      simp only [Bool.and_eq_true] at hr
      obtain ⟨h1, h2⟩ := ofB_all hr.2
      refine ⟨a, r, rfl, ?_, h1, h2⟩
      have : a = 67 ∨ a = 68 := by simpa using hr.1
      rcases this with rfl | rfl <;> decide
  · rename_i h5
    right
    split at hr
    · rename_i h1
      obtain ⟨a, b⟩ := ofB_all hr
      exact .inr (.inl ⟨h1, a, b⟩)
    · rename_i h1
      split at hr
      · rename_i h2
        simp only [Bool.and_eq_true, decide_eq_true_eq] at hr
        obtain ⟨a, _⟩ := ofB_all hr.2
        exact .inl ⟨h2, hr.1.1, hr.1.2, a⟩
      · rename_i h2
        split at hr
        · rename_i h3
          obtain ⟨a, b⟩ := ofB_all hr
          exact .inr (.inr (.inl ⟨h3, a, b⟩))
        · rename_i h3
          obtain ⟨a, b⟩ := ofB_all hr
          exact .inr (.inr (.inr ⟨by omega, a, b⟩))

/-- How many bytes a form's text takes. -/
def bytesN (k n c : Int) (m : Int) : Int :=
  if k = 5 then (lettersC c).size 1 + (digitsC c).size n
  else if k = 2 then (digitsC c).size 2 + (digitsC c).size m
  else if k = 1 then (digitsC c).size n
  else if k = 3 then (lettersC c).size n
  else (rawC c).size (2 * n)
theorem told_all {m : Nat} (h : m < 100) : (told m).all (inRow (alpha (digitsC 1))) = true := told_ok m h
theorem all_d {c : Int} {l : List UInt8} (h : l.all (inRow tenL) = true) : l.all (inRow (alpha (digitsC c))) = true := by rw [(good_digits c).2]; exact h
theorem all_l {c : Int} {l : List UInt8} (h : l.all (inRow signsL) = true) : l.all (inRow (alpha (lettersC c))) = true := by rw [(good_letters c).2]; exact h
theorem all_r {c : Int} {l : List UInt8} (h : l.all (inRow hexL) = true) : l.all (inRow (alpha (rawC c))) = true := by rw [(good_raw c).2]; exact h
theorem bytes_len {k n c : Int} {l : List UInt8} (h : Fit k n c l) : ((putBytes k c l).length : Int) = bytesN k n c l.length := by
  obtain ⟨hn, ⟨rfl, a, r, rfl, ha, hr, hl⟩ | ⟨rfl, h0, h1, hr⟩ | ⟨rfl, hr, hl⟩ | ⟨rfl, hr, hl⟩ | ⟨rfl, hr, hl⟩⟩ := h
  · have e1 := put_len (good_letters c).1 (all_l (c := c) ha)
    have e2 := put_len (good_digits c).1 (all_d (c := c) hr)
    rw [hl] at e2
    simp only [putBytes, bytesN, if_true, List.length_append, List.take_succ_cons, List.take_zero, List.tail_cons]
    have e1' : (((lettersC c).put [a]).length : Int) = (lettersC c).size 1 := e1
    omega
  · have e1 := put_len (good_digits c).1 (all_d (c := c) (told_ok l.length (by omega)))
    have e2 := put_len (good_digits c).1 (all_d (c := c) hr)
    have e1' : (((digitsC c).put (told l.length)).length : Int) = (digitsC c).size 2 := e1
    simp only [putBytes, bytesN, if_true]
    rw [if_neg (by decide), if_neg (by decide), List.length_append]
    omega
  · have e2 := put_len (good_digits c).1 (all_d (c := c) hr)
    rw [hl] at e2
    exact e2
  · have e2 := put_len (good_letters c).1 (all_l (c := c) hr)
    rw [hl] at e2
    exact e2
  · have e2 := put_len (good_raw c).1 (all_r (c := c) hr)
    rw [hl] at e2
    exact e2
theorem back {k n c : Int} {l : List UInt8} (h : Fit k n c l) (r : List UInt8) : textL k n c (putBytes k c l ++ r) = (l, r, 0) := by
  have hlen := bytes_len h
  obtain ⟨hn, ⟨rfl, a, x, rfl, ha, hx, hl⟩ | ⟨rfl, h0, h1, hx⟩ | ⟨rfl, hx, hl⟩ | ⟨rfl, hx, hl⟩ | ⟨rfl, hx, hl⟩⟩ := h
  · have hb : bytesN 5 n c (a :: x).length = (lettersC c).size 1 + (digitsC c).size n := rfl
    rw [hb] at hlen
    have hp : putBytes 5 c (a :: x) = (lettersC c).put [a] ++ (digitsC c).put x := rfl
    have h1 := next_put (good_letters c).1 (all_l (c := c) ha) (r := (digitsC c).put x ++ r) (n := 1) rfl
    have h2 := next_put (good_digits c).1 (all_d (c := c) hx) (r := r) hl
    have hs : ¬ (((putBytes 5 c (a :: x) ++ r).length : Int) < (lettersC c).size 1 + (digitsC c).size n) := by rw [List.length_append]; omega
    unfold textL
    rw [if_pos rfl, if_neg hs, hp, List.append_assoc, h1]
    simp only
    rw [h2]
    rfl
  · have ht := all_d (c := c) (told_ok l.length (by omega))
    have hp : putBytes 2 c l = (digitsC c).put (told l.length) ++ (digitsC c).put l := rfl
    have h2 := next_put (good_digits c).1 ht (r := (digitsC c).put l ++ r) (n := 2) rfl
    have h3 := next_put (good_digits c).1 (all_d (c := c) hx) (r := r) (n := l.length) rfl
    have hz := told_size l.length
    rw [if_pos (by omega)] at hz
    unfold textL
    rw [if_neg (by decide), if_pos rfl, hp, List.append_assoc, h2]
    simp only
    rw [if_neg (by simp), hz, if_neg (by omega), h3]
  · exact next_put (good_digits c).1 (all_d (c := c) hx) hl
  · exact next_put (good_letters c).1 (all_l (c := c) hx) hl
  · exact next_put (good_raw c).1 (all_r (c := c) hx) hl
theorem short {k n c : Int} {l : List UInt8} (h : Fit k n c l) (i : Nat) (hi : i < (putBytes k c l).length) : (textL k n c ((putBytes k c l).take i)).2.2 = 43 := by
  have hlen := bytes_len h
  have hti : (((putBytes k c l).take i).length : Int) = i := by rw [List.length_take]; omega
  obtain ⟨hn, ⟨rfl, a, x, rfl, ha, hx, hl⟩ | ⟨rfl, h0, h1, hx⟩ | ⟨rfl, hx, hl⟩ | ⟨rfl, hx, hl⟩ | ⟨rfl, hx, hl⟩⟩ := h
  · have hb : bytesN 5 n c (a :: x).length = (lettersC c).size 1 + (digitsC c).size n := rfl
    rw [hb] at hlen
    unfold textL
    rw [if_pos rfl, if_pos (by omega)]
  · have ht := all_d (c := c) (told_ok l.length (by omega))
    have hp : putBytes 2 c l = (digitsC c).put (told l.length) ++ (digitsC c).put l := rfl
    have e1 := put_len (good_digits c).1 ht
    have e1' : (((digitsC c).put (told l.length)).length : Int) = (digitsC c).size 2 := e1
    have e2 := put_len (good_digits c).1 (all_d (c := c) hx)
    have hb : bytesN 2 n c l.length = (digitsC c).size 2 + (digitsC c).size l.length := rfl
    rw [hb] at hlen
    unfold textL
    rw [if_neg (by decide), if_pos rfl]
    by_cases hs : (i : Int) < (digitsC c).size 2
    · rw [next_short (by omega)]
      rw [if_pos (by simp)]
    · have hcut : (putBytes 2 c l).take i = (digitsC c).put (told l.length) ++ ((digitsC c).put l).take (i - ((digitsC c).put (told l.length)).length) := by
        rw [hp, List.take_append, List.take_of_length_le (by omega)]
      have h2 := next_put (good_digits c).1 ht (r := ((digitsC c).put l).take (i - ((digitsC c).put (told l.length)).length)) (n := 2) rfl
      have hz := told_size l.length
      rw [if_pos (by omega)] at hz
      rw [hcut, h2]
      simp only
      rw [if_neg (by simp), hz, if_neg (by omega), next_short (by rw [List.length_take]; omega)]
  · have hb : bytesN 1 n c l.length = (digitsC c).size n := rfl
    rw [hb] at hlen
    have e : textL 1 n c ((putBytes 1 c l).take i) = nextL (digitsC c) n ((putBytes 1 c l).take i) 0 := rfl
    rw [e, next_short (by omega)]
  · have hb : bytesN 3 n c l.length = (lettersC c).size n := rfl
    rw [hb] at hlen
    have e : textL 3 n c ((putBytes 3 c l).take i) = nextL (lettersC c) n ((putBytes 3 c l).take i) 0 := rfl
    rw [e, next_short (by omega)]
  · have hb : bytesN 4 n c l.length = (rawC c).size (2 * n) := rfl
    rw [hb] at hlen
    have e : textL 4 n c ((putBytes 4 c l).take i) = nextL (rawC c) (2 * n) ((putBytes 4 c l).take i) 0 := rfl
    rw [e, next_short (by omega)]
theorem front {k n c : Int} {b : List UInt8} (hm : mayB k n c = true) (h : (textL k n c b).2.2 = 0) : b = putBytes k c (textL k n c b).1 ++ (textL k n c b).2.1 := by
  have hm' : 1 ≤ k ∧ k ≤ 5 ∧ 1 ≤ n ∧ n ≤ 64 ∧ 1 ≤ c ∧ c ≤ 3 := by simpa [mayB] using hm
  rcases (show k = 1 ∨ k = 2 ∨ k = 3 ∨ k = 4 ∨ k = 5 by omega) with rfl | rfl | rfl | rfl | rfl
  · have e : textL 1 n c b = nextL (digitsC c) n b 0 := rfl
    rw [e] at h ⊢
    have hz := (next_zero (good_digits c).1 (by omega) h).2.2.2
    have hp : ∀ x, putBytes 1 c x = (digitsC c).put x := fun _ => rfl
    rw [hp]
    exact hz
  · unfold textL at h ⊢
    rw [if_neg (by decide), if_pos rfl] at h ⊢
    by_cases h1 : (nextL (digitsC c) 2 b 0).2.2 ≠ 0
    · rw [if_pos h1] at h
      exact absurd h h1
    · rw [if_neg h1] at h ⊢
      obtain ⟨_, ha, hl, hb⟩ := next_zero (good_digits c).1 (n := 2) (by decide) (by simpa using h1)
      generalize nextL (digitsC c) 2 b 0 = A at h ha hl hb ⊢
      obtain ⟨t, r, e⟩ := A
      simp only at h ha hl hb ⊢
      rw [(good_digits c).2] at ha
      have hr := toldN_range t
      obtain ⟨he, ha2, hl2, hb2⟩ := next_zero (good_digits c).1 (by omega) h
      have ht := toldN_told ha (by omega)
      have hrange : ¬ (toldN t < 1 ∨ n < toldN t) := by
        intro hc
        rw [if_pos hc] at he
        cases he
      rw [if_neg hrange] at hl2 hb2 ⊢
      generalize nextL (digitsC c) (toldN t) r 0 = B at hl2 hb2 ⊢
      obtain ⟨t2, r2, e2⟩ := B
      simp only at hl2 hb2 ⊢
      have hp : putBytes 2 c t2 = (digitsC c).put (told t2.length) ++ (digitsC c).put t2 := rfl
      rw [hp, show t2.length = (toldN t).toNat by omega, ht, List.append_assoc, ← hb2]
      exact hb
  · have e : textL 3 n c b = nextL (lettersC c) n b 0 := rfl
    rw [e] at h ⊢
    have hz := (next_zero (good_letters c).1 (by omega) h).2.2.2
    have hp : ∀ x, putBytes 3 c x = (lettersC c).put x := fun _ => rfl
    rw [hp]
    exact hz
  · have e : textL 4 n c b = nextL (rawC c) (2 * n) b 0 := rfl
    rw [e] at h ⊢
    have hz := (next_zero (good_raw c).1 (by omega) h).2.2.2
    have hp : ∀ x, putBytes 4 c x = (rawC c).put x := fun _ => rfl
    rw [hp]
    exact hz
  · unfold textL at h ⊢
    rw [if_pos rfl] at h ⊢
    by_cases h1 : (b.length : Int) < (lettersC c).size 1 + (digitsC c).size n
    · rw [if_pos h1] at h; cases h
    · rw [if_neg h1] at h ⊢
      simp only at h ⊢
      obtain ⟨he, ha2, hl2, hb2⟩ := next_zero (good_digits c).1 (by omega) h
      obtain ⟨_, ha, hl, hb⟩ := next_zero (good_letters c).1 (by decide) he
      generalize nextL (lettersC c) 1 b 0 = A at *
      obtain ⟨t, r, e⟩ := A
      simp only at *
      generalize nextL (digitsC c) n r e = B at *
      obtain ⟨t2, r2, e2⟩ := B
      simp only at *
      obtain ⟨x, rfl⟩ : ∃ x, t = [x] := by
        match t, (show t.length = 1 by omega) with
        | [x], _ => exact ⟨x, rfl⟩
      have hp : putBytes 5 c ([x] ++ t2) = (lettersC c).put [x] ++ (digitsC c).put t2 := rfl
      rw [hp, List.append_assoc, ← hb2]
      exact hb
theorem fit_size {k n c : Int} {l : List UInt8} (h : Fit k n c l) : (l.length : Int) ≤ 200 := by
  obtain ⟨hn, ⟨rfl, a, x, rfl, ha, hx, hl⟩ | ⟨rfl, h0, h1, hx⟩ | ⟨rfl, hx, hl⟩ | ⟨rfl, hx, hl⟩ | ⟨rfl, hx, hl⟩⟩ := h
  · simp only [List.length_cons]; omega
  · omega
  · omega
  · omega
  · omega
theorem bytes_small {k n c : Int} {l : List UInt8} (h : Fit k n c l) : (putBytes k c l).length ≤ 1000 := by
  have h1 := bytes_len h
  have h2 := fit_size h
  have hn := h.1
  have s1 := size_range (lettersC c) (n := 1) (by decide) (by decide)
  have s2 := size_range (digitsC c) (n := 2) (by decide) (by decide)
  have sz : ∀ (ck : CK) (m : Int), 0 ≤ m → m ≤ 200 → ck.size m ≤ 200 := by
    intro ck m a b
    cases ck with
    | plain f t => exact b
    | packed d => show (m + 1) / 2 ≤ 200; omega
  have a1 := sz (lettersC c) 1 (by decide) (by decide)
  have a2 := sz (digitsC c) 2 (by decide) (by decide)
  have a3 := sz (digitsC c) n (by omega) (by omega)
  have a4 := sz (digitsC c) l.length (by omega) (by omega)
  have a5 := sz (lettersC c) n (by omega) (by omega)
  have a6 := sz (rawC c) (2 * n) (by omega) (by omega)
  unfold bytesN at h1
  split at h1
  · omega
  · split at h1
    · omega
    · split at h1
      · omega
      · split at h1 <;> omega
theorem putR_zero {l0 : List Int} {k n c : Int} {s : ByteArray} (h : (putR l0 k n c s).2 = 0) : checkR k n c s.data.toList = 0 ∧ (putR l0 k n c s).1 = l0 ++ nums8 (putBytes k c s.data.toList) := by
  unfold putR at h ⊢
  by_cases hc : checkR k n c s.data.toList = 0
  · rw [if_pos hc]
    exact ⟨hc, rfl⟩
  · rw [if_neg hc] at h
    exact absurd h hc
theorem putR_ne {l0 : List Int} {k n c : Int} {s : ByteArray} (h : (putR l0 k n c s).2 ≠ 0) : checkR k n c s.data.toList = (putR l0 k n c s).2 ∧ (putR l0 k n c s).1 = [] := by
  unfold putR at h ⊢
  by_cases hc : checkR k n c s.data.toList = 0
  · rw [if_pos hc] at h
    exact absurd rfl h
  · rw [if_neg hc]
    exact ⟨rfl, rfl⟩
theorem putR_of {k n c : Int} {s : ByteArray} (l0 : List Int) (h : checkR k n c s.data.toList = 0) : putR l0 k n c s = (l0 ++ nums8 (putBytes k c s.data.toList), 0) := by
  unfold putR
  rw [if_pos h]
theorem str_nums (l : List UInt8) : strOfNums (nums8 l) = ⟨l.toArray⟩ := by
  unfold strOfNums nums8
  rw [List.map_map]
  have : ((fun n : Int => UInt8.ofNat n.toNat) ∘ fun b : UInt8 => (b.toNat : Int)) = id := by
    funext b
    simp
  rw [this, List.map_id]
theorem nums_str {l : List Int} (h : ∀ a ∈ l, 0 ≤ a ∧ a < 256) : nums8 (strOfNums l).data.toList = l := by
  rw [strOfNums_data]
  unfold nums8
  rw [List.map_map]
  refine (List.map_congr_left (fun a ha => ?_)).trans (List.map_id _)
  have := h a ha
  show ((UInt8.ofNat a.toNat).toNat : Int) = a
  rw [UInt8.toNat_ofNat_of_lt' (by show a.toNat < 256; omega)]
  omega
theorem arr_list {a b : ByteArray} (h : a.data.toList = b.data.toList) : a = b := by
  cases a; cases b
  simp only [ByteArray.mk.injEq]
  exact Array.ext' h
theorem takeR_ne {l : List Int} {k n c : Int} (h : (takeR l k n c).2.2 ≠ 0) : (takeR l k n c).1 = ⟨#[]⟩ ∧ (takeR l k n c).2.1 = [] := by
  unfold takeR at h ⊢
  split
  · rename_i hm
    rw [if_pos hm] at h
    split
    · exact ⟨rfl, rfl⟩
    · rename_i he
      rw [if_neg he] at h
      split
      · rename_i hr
        rw [if_pos hr] at h
        exact absurd rfl h
      · exact ⟨rfl, rfl⟩
  · exact ⟨rfl, rfl⟩
theorem takeR_zero {l : List Int} {k n c : Int} (h : (takeR l k n c).2.2 = 0) : checkR k n c (takeR l k n c).1.data.toList = 0 ∧ (strOfNums l).data.toList = putBytes k c (takeR l k n c).1.data.toList ++ (strOfNums (takeR l k n c).2.1).data.toList := by
  unfold takeR at h ⊢
  by_cases hm : mayB k n c = true
  · rw [if_pos hm] at h ⊢
    by_cases he : (textL k n c (strOfNums l).data.toList).2.2 ≠ 0
    · rw [if_pos he] at h
      exact absurd h he
    · rw [if_neg he] at h ⊢
      by_cases hr : rightB k n (textL k n c (strOfNums l).data.toList).1 = true
      · rw [if_pos hr]
        refine ⟨?_, ?_⟩
        · show checkR k n c (textL k n c (strOfNums l).data.toList).1 = 0
          simp [checkR, hm, hr]
        · simp only
          rw [str_nums]
          exact front hm (by simpa using he)
      · rw [if_neg hr] at h
        cases h
  · rw [if_neg hm] at h
    cases h
theorem takeR_back {k n c : Int} {t : List UInt8} (h : checkR k n c t = 0) (l : List Int) (r : List UInt8) (hl : (strOfNums l).data.toList = putBytes k c t ++ r) : takeR l k n c = (⟨t.toArray⟩, nums8 r, 0) := by
  obtain ⟨hm, hr⟩ := check_zero h
  have hb := back (fit_of h) r
  unfold takeR
  rw [if_pos hm, hl, hb]
  simp only
  rw [if_neg (by simp), if_pos hr]
theorem takeR_short {k n c : Int} {t : List UInt8} (h : checkR k n c t = 0) (l : List Int) (i : Nat) (hi : i < (putBytes k c t).length) (hl : (strOfNums l).data.toList = (putBytes k c t).take i) : (takeR l k n c).2.2 = 43 := by
  obtain ⟨hm, _⟩ := check_zero h
  have hb := short (fit_of h) i hi
  unfold takeR
  rw [if_pos hm, hl, if_pos (by rw [hb]; decide)]
  exact hb
end Go.Proofs.Ytcgfbdleapjigaa.fieldl

namespace Go.Proofs.Ytcgfbdleapjigaa.fieldl
open Go Go.Proofs.Ytcgfbdleapjigaa.fieldp

theorem digL_dig (n : Nat) : ∀ (k : Nat), ∀ c ∈ digL n k, isDig c := by
  intro k
  induction k generalizing n with
  | zero => intro c hc; cases hc
  | succ k ih =>
    intro c hc
    rw [digL, List.mem_append] at hc
    rcases hc with hc | hc
    · exact ih _ c hc
    · have : c = (48 + n % 10).toUInt8 := by simpa using hc
      subst this
      unfold isDig
      simp only [Nat.toUInt8, UInt8.toNat_ofNat']
      omega
theorem digL_all (n k : Nat) : (digL n k).all (inRow tenL) = true := List.all_eq_true.2 fun c hc => dig_row (digL_dig n k c hc)
theorem numL_digL : ∀ (k n : Nat), n < 10 ^ k → numL (digL n k) = (n : Int)
  | 0, n, h => by
    have : n = 0 := by simpa using h
    subst this
    rfl
  | k + 1, n, h => by
    rw [digL, numL_snoc, numL_digL k (n / 10) (by rw [Nat.div_lt_iff_lt_mul (by decide), ← Nat.pow_succ]; exact h)]
    have : (((48 + n % 10).toUInt8).toNat : Int) = 48 + (n % 10 : Nat) := by
      simp only [Nat.toUInt8, UInt8.toNat_ofNat']
      omega
    rw [this]
    omega
theorem numL_zero (l : List UInt8) : numL (48 :: l) = numL l := rfl
theorem digL_mod (n k : Nat) : digL n k = digL (n % 10 ^ k) k := by
  induction k generalizing n with
  | zero => rfl
  | succ k ih =>
    rw [digL, digL, ih (n / 10), ih (n % 10 ^ (k + 1) / 10)]
    rw [Nat.pow_succ, Nat.mul_comm, Nat.mod_mul_right_div_self, Nat.mod_mul_right_mod, Nat.mod_mod]
theorem byte_lt (a b : Nat) (ha : a < 10) (hb : b < 10) : ((48 + a).toUInt8 < (48 + b).toUInt8) ↔ a < b := by
  rw [UInt8.lt_iff_toNat_lt]
  simp only [Nat.toUInt8, UInt8.toNat_ofNat']
  omega
theorem byte_eq (a b : Nat) (ha : a < 10) (hb : b < 10) : ((48 + a).toUInt8 = (48 + b).toUInt8) ↔ a = b := by
  constructor
  · intro h
    have := congrArg UInt8.toNat h
    simp only [Nat.toUInt8, UInt8.toNat_ofNat'] at this
    omega
  · intro h; rw [h]
theorem digL_eq {a b k : Nat} (ha : a < 10 ^ k) (hb : b < 10 ^ k) (h : digL a k = digL b k) : a = b := by
  have h1 := numL_digL k a ha
  rw [h, numL_digL k b hb] at h1
  omega
theorem amount_digL {n k : Nat} (hk : 1 ≤ k) (hk2 : k ≤ 18) (h : n < 10 ^ k) : amountR (digL n k) = ((n : Int), 0) := by
  unfold amountR
  rw [if_pos ⟨by intro e; have := digL_length n k; rw [e] at this; simp at this; omega, by rw [digL_length]; exact hk2, digL_all n k⟩, numL_digL k n h]
theorem amount_zero {n k : Nat} (hk2 : k < 18) (h : n < 10 ^ k) : amountR (48 :: digL n k) = ((n : Int), 0) := by
  unfold amountR
  rw [if_pos ⟨by simp, by rw [List.length_cons, digL_length]; omega, by rw [List.all_cons, digL_all n k]; decide⟩, numL_zero, numL_digL k n h]
theorem less_cons (a b : UInt8) (x y : List UInt8) : Op.bytesLess (a :: x) (b :: y) = (decide (a < b) || (a == b && Op.bytesLess x y)) := by
  simp [Op.bytesLess]
theorem less_digL : ∀ (k a b : Nat), a < 10 ^ k → b < 10 ^ k → Op.bytesLess (digL a k) (digL b k) = decide (a < b)
  | 0, a, b, ha, hb => by
    have h1 : a = 0 := by simpa using ha
    have h2 : b = 0 := by simpa using hb
    subst h1 h2
    rfl
  | k + 1, a, b, ha, hb => by
    have hp : 0 < 10 ^ k := Nat.pow_pos (by decide)
    have hp1 : 10 ^ (k + 1) = 10 * 10 ^ k := by rw [Nat.pow_succ, Nat.mul_comm]
    have qa : a / 10 ^ k < 10 := by rw [Nat.div_lt_iff_lt_mul hp]; omega
    have qb : b / 10 ^ k < 10 := by rw [Nat.div_lt_iff_lt_mul hp]; omega
    rw [digL_front, digL_front, less_cons, digL_mod a k, digL_mod b k, less_digL k _ _ (Nat.mod_lt _ hp) (Nat.mod_lt _ hp), Nat.mod_eq_of_lt qa, Nat.mod_eq_of_lt qb]
    have ea := Nat.div_add_mod a (10 ^ k)
    have eb := Nat.div_add_mod b (10 ^ k)
    have ra := Nat.mod_lt a hp
    have rb := Nat.mod_lt b hp
    generalize a / 10 ^ k = x at *
    generalize b / 10 ^ k = y at *
    generalize a % 10 ^ k = u at *
    generalize b % 10 ^ k = v at *
    generalize 10 ^ k = m at *
    by_cases h1 : x < y
    · have : a < b := by
        have : m * (x + 1) ≤ m * y := Nat.mul_le_mul_left _ h1
        rw [Nat.mul_add] at this
        omega
      rw [decide_eq_true ((byte_lt x y qa qb).2 h1), decide_eq_true this]
      rfl
    · rw [decide_eq_false (fun h => h1 ((byte_lt x y qa qb).1 h)), Bool.false_or]
      by_cases h2 : x = y
      · subst h2
        rw [beq_self_eq_true, Bool.true_and]
        rw [Bool.eq_iff_iff, decide_eq_true_iff, decide_eq_true_iff]
        omega
      · have hne : ((48 + x).toUInt8 == (48 + y).toUInt8) = false := beq_eq_false_iff_ne.2 (fun h => h2 ((byte_eq x y qa qb).1 h))
        have : ¬ a < b := by
          have : m * (y + 1) ≤ m * x := Nat.mul_le_mul_left _ (by omega)
          rw [Nat.mul_add] at this
          omega
        rw [hne, decide_eq_false this]
        rfl
end Go.Proofs.Ytcgfbdleapjigaa.fieldl
