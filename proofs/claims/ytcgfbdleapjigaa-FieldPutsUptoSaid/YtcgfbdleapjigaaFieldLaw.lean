/- Plain laws of layer 4: what is put is taken again, and what is taken is what is put. No walk. -/
import Derived.Test.YtcgfbdleapjigaaFieldM
namespace Go.Proofs.Ytcgfbdleapjigaa.fieldl
open Go Go.Proofs.Ytcgfbdleapjigaa.fieldp Go.Proofs.Ytcgfbdleapjigaa.fieldw

/-- A row without two bytes alike. -/
def Row (t : List UInt8) : Prop := ∀ i : Nat, i < t.length → Lib.indexByte t (t.getD i 0) = (i : Int)
theorem index_get {fr : List UInt8} {c : UInt8} (h : Lib.indexByte fr c ≠ -1) : ∃ i : Nat, Lib.indexByte fr c = (i : Int) ∧ i < fr.length ∧ fr.getD i 0 = c := by
  have h1 := Lib.indexByte_ge fr c
  have h2 := (Lib.indexByte_some (l := fr) (c := c) (o := (Lib.indexByte fr c).toNat) (by omega)).1
  refine ⟨(Lib.indexByte fr c).toNat, by omega, (List.getElem?_eq_some_iff.1 h2).1, ?_⟩
  rw [List.getD_eq_getElem?_getD, h2]
  rfl
theorem turn_back {fr tt : List UInt8} (hr : Row tt) (hl : fr.length ≤ tt.length) : ∀ {l a : List UInt8}, turnL fr tt l = some a → turnL tt fr a = some l
  | [], a, h => by simp [turnL] at h; subst h; rfl
  | c :: l, a, h => by
    simp only [turnL] at h
    split at h
    · cases h
    · rename_i hne
      obtain ⟨i, hi, hil, hc⟩ := index_get hne
      cases e : turnL fr tt l with
      | none => rw [e] at h; cases h
      | some b =>
        rw [e] at h
        simp only [Option.map_some, Option.some.injEq] at h
        subst h
        have ih := turn_back hr hl e
        rw [hi, Int.toNat_natCast]
        have hx := hr i (by omega)
        simp only [turnL]
        rw [hx, if_neg (by omega), ih, Int.toNat_natCast, hc]
        rfl
theorem turn_some {fr tt : List UInt8} : ∀ {l : List UInt8}, l.all (inRow fr) = true → ∃ a, turnL fr tt l = some a
  | [], _ => ⟨[], rfl⟩
  | c :: l, h => by
    simp only [List.all_cons, Bool.and_eq_true] at h
    obtain ⟨a, ha⟩ := turn_some h.2 (fr := fr) (tt := tt)
    have hc : Lib.indexByte fr c ≠ -1 := by simpa [inRow] using h.1
    exact ⟨_, by simp only [turnL]; rw [if_neg hc, ha]; rfl⟩

theorem hex_val : ∀ i : Nat, i < 16 → hv (hexd i) = i ∧ isHex (hexd i) := by
  have : ∀ i : Fin 16, hv (hexd i.1) = i.1 ∧ Lib.indexByte hexL (hexd i.1) ≠ -1 := by decide
  exact fun i hi => this ⟨i, hi⟩
theorem hexd_hv {c : UInt8} (h : isHex c) : hexd (hv c) = c := by
  obtain ⟨i, hi, hil, hc⟩ := index_get (fr := hexL) (c := c) h
  unfold hv hexd
  rw [hi, Int.toNat_natCast]
  exact hc
theorem two_hex (a b : Nat) (ha : a < 16) (hb : b < 16) : (16 * a + b).toUInt8.toNat / 16 = a ∧ (16 * a + b).toUInt8.toNat % 16 = b := by
  have : (16 * a + b).toUInt8.toNat = 16 * a + b := by
    simp only [Nat.toUInt8, UInt8.toNat_ofNat']
    omega
  omega
theorem unpack_pack : ∀ (n : Nat) (l : List UInt8), l.length = 2 * n → (∀ c ∈ l, isHex c) → unpackL (packE l) = l
  | 0, [], _, _ => rfl
  | n + 1, a :: b :: l, h, hx => by
    have ha := hx a (by simp)
    have hb := hx b (by simp)
    have ih := unpack_pack n l (by simp at h; omega) (fun c hc => hx c (by simp [hc]))
    have h2 := two_hex (hv a) (hv b) (hv_lt ha) (hv_lt hb)
    simp only [packE]
    rw [show ∀ (x : UInt8) (r : List UInt8), unpackL (x :: r) = hexd (x.toNat / 16) :: hexd (x.toNat % 16) :: unpackL r from fun x r => by simp [unpackL]]
    rw [h2.1, h2.2, ih, hexd_hv ha, hexd_hv hb]
  | n + 1, [_], h, _ => by simp at h; omega
  | n + 1, [], h, _ => by simp at h
theorem pack_unpack : ∀ (x : List UInt8), packE (unpackL x) = x
  | [] => rfl
  | c :: x => by
    rw [show unpackL (c :: x) = hexd (c.toNat / 16) :: hexd (c.toNat % 16) :: unpackL x from by simp [unpackL]]
    have h1 := c.toNat_lt
    simp only [packE]
    rw [(hex_val _ (by omega)).1, (hex_val _ (by omega)).1, pack_unpack x]
    congr 1
    apply UInt8.toNat_inj.1
    simp only [Nat.toUInt8, UInt8.toNat_ofNat']
    omega
theorem unpack_hex (x : List UInt8) : ∀ c ∈ unpackL x, isHex c := by
  intro c hc
  simp only [unpackL, List.mem_flatMap] at hc
  obtain ⟨a, _, hc⟩ := hc
  have := a.toNat_lt
  simp only [List.mem_cons, List.not_mem_nil, or_false] at hc
  rcases hc with rfl | rfl
  · exact (hex_val _ (by omega)).2
  · exact (hex_val _ (by omega)).2

/-- The bytes that a code writes. -/
def alpha : CK → List UInt8
  | .plain f _ => f.data.toList
  | .packed d => d.data.toList
/-- A code that can be read again. -/
def Good : CK → Prop
  | .plain f t => Row f.data.toList ∧ Row t.data.toList ∧ f.size = t.size
  | .packed d => ∀ c : UInt8, inRow d.data.toList c = true → isHex c
theorem put_len {ck : CK} (hg : Good ck) {l : List UInt8} (h : l.all (inRow (alpha ck)) = true) : ((ck.put l).length : Int) = ck.size l.length := by
  cases ck with
  | plain f t =>
    obtain ⟨a, ha⟩ := turn_some h (tt := t.data.toList)
    have ha' : turnL f.data.toList t.data.toList l = some a := ha
    show (((turnL f.data.toList t.data.toList l).getD []).length : Int) = (l.length : Int)
    rw [ha', Option.getD_some, turnL_length _ _ _ _ ha']
  | packed d =>
    show ((packE (evened l)).length : Int) = ((l.length : Int) + 1) / 2
    have he := evened_even l
    rw [packE_length ((evened l).length / 2) _ (by omega)]
    unfold evened
    split
    · simp only [List.length_cons]; omega
    · omega
theorem take_put {ck : CK} (hg : Good ck) {l : List UInt8} (h : l.all (inRow (alpha ck)) = true) : ck.take (ck.put l) l.length = some l := by
  cases ck with
  | plain f t =>
    obtain ⟨hf, ht, hs⟩ := hg
    obtain ⟨a, ha⟩ := turn_some h (tt := t.data.toList)
    have ha' : turnL f.data.toList t.data.toList l = some a := ha
    show turnL t.data.toList f.data.toList ((turnL f.data.toList t.data.toList l).getD []) = some l
    rw [ha', Option.getD_some]
    exact turn_back ht (by rw [size_list, size_list]; omega) ha'
  | packed d =>
    have hh : ∀ c ∈ l, isHex c := fun c hc => hg c (List.all_eq_true.1 h c hc)
    have hu : unpackL (packE (evened l)) = evened l := unpack_pack ((evened l).length / 2) _ (by have := evened_even l; omega) (evened_hex hh)
    have ho : ofB l d.data.toList l.length = true := by
      unfold ofB
      rw [show l.all (inRow d.data.toList) = true from h]
      simp
    show takePacked d.data.toList (packE (evened l)) l.length = some l
    unfold takePacked
    rw [hu]
    by_cases hodd : l.length % 2 = 1
    · rw [if_pos hodd, show evened l = 48 :: l from if_pos hodd]
      exact (if_pos rfl).trans (if_pos ho)
    · rw [if_neg hodd, show evened l = l from if_neg hodd]
      exact if_pos ho
theorem put_take {ck : CK} (hg : Good ck) {x t : List UInt8} {n : Int} (hl : (x.length : Int) = ck.size n) (h : ck.take x n = some t) : t.all (inRow (alpha ck)) = true ∧ ck.put t = x := by
  cases ck with
  | plain f t' =>
    obtain ⟨hf, ht, hs⟩ := hg
    have h' : turnL t'.data.toList f.data.toList x = some t := h
    have hb := turn_back hf (by rw [size_list, size_list]; omega) h'
    refine ⟨turnL_all _ _ (show t'.data.toList.length ≤ f.data.toList.length by rw [size_list, size_list]; omega) _ _ h', ?_⟩
    show (turnL f.data.toList t'.data.toList t).getD [] = x
    rw [hb]
    rfl
  | packed d =>
    have h' : takePacked d.data.toList x n.toNat = some t := h
    have hl' : (x.length : Int) = (n + 1) / 2 := hl
    have hu := unpackL_length x
    unfold takePacked at h'
    split at h'
    · rename_i hodd
      split at h'
      · rename_i hh
        split at h'
        · rename_i ho
          have ht : (unpackL x).tail = t := Option.some.inj h'
          rw [ht] at ho
          obtain ⟨h1, h2⟩ := ofB_all ho
          refine ⟨h1, ?_⟩
          show packE (evened t) = x
          have : evened t = unpackL x := by
            unfold evened
            rw [if_pos (by omega)]
            cases hx : unpackL x with
            | nil => rw [hx] at hh; cases hh
            | cons a r =>
              rw [hx] at hh ht
              simp only [List.head?_cons, Option.some.injEq] at hh
              simp only [List.tail_cons] at ht
              rw [hh, ht]
          rw [this, pack_unpack]
        · cases h'
      · cases h'
    · rename_i heven
      split at h'
      · rename_i ho
        have ht : unpackL x = t := Option.some.inj h'
        rw [ht] at ho
        obtain ⟨h1, h2⟩ := ofB_all ho
        refine ⟨h1, ?_⟩
        show packE (evened t) = x
        have : evened t = unpackL x := by
          unfold evened
          rw [if_neg (by omega), ht]
        rw [this, pack_unpack]
      · cases h'

set_option maxRecDepth 100000 in
theorem good_letters (c : Int) : Good (lettersC c) ∧ alpha (lettersC c) = signsL := by
  have h1 : ∀ i : Fin 37, Lib.indexByte signsL (signsL.getD i.1 0) = (i.1 : Int) := by decide
  have h2 : ∀ i : Fin 37, Lib.indexByte ebcB.data.toList (ebcB.data.toList.getD i.1 0) = (i.1 : Int) := by decide
  unfold lettersC
  split
  · exact ⟨⟨fun i h => h1 ⟨i, h⟩, fun i h => h1 ⟨i, h⟩, rfl⟩, rfl⟩
  · split
    · exact ⟨⟨fun i h => h1 ⟨i, h⟩, fun i h => h1 ⟨i, h⟩, rfl⟩, rfl⟩
    · exact ⟨⟨fun i h => h1 ⟨i, h⟩, fun i h => h2 ⟨i, h⟩, rfl⟩, rfl⟩
set_option maxRecDepth 100000 in
theorem good_digits (c : Int) : Good (digitsC c) ∧ alpha (digitsC c) = tenL := by
  have h1 : ∀ i : Fin 10, Lib.indexByte tenL (tenL.getD i.1 0) = (i.1 : Int) := by decide
  have h2 : ∀ i : Fin 10, Lib.indexByte eb10.data.toList (eb10.data.toList.getD i.1 0) = (i.1 : Int) := by decide
  unfold digitsC
  split
  · exact ⟨⟨fun i h => h1 ⟨i, h⟩, fun i h => h1 ⟨i, h⟩, rfl⟩, rfl⟩
  · split
    · exact ⟨fun c hc => ten_hex hc, rfl⟩
    · exact ⟨⟨fun i h => h1 ⟨i, h⟩, fun i h => h2 ⟨i, h⟩, rfl⟩, rfl⟩
set_option maxRecDepth 100000 in
theorem good_raw (c : Int) : Good (rawC c) ∧ alpha (rawC c) = hexL := by
  have h1 : ∀ i : Fin 16, Lib.indexByte hexL (hexL.getD i.1 0) = (i.1 : Int) := by decide
  have h2 : ∀ i : Fin 16, Lib.indexByte highB.data.toList (highB.data.toList.getD i.1 0) = (i.1 : Int) := by decide
  unfold rawC
  split
  · exact ⟨⟨fun i h => h1 ⟨i, h⟩, fun i h => h2 ⟨i, h⟩, rfl⟩, rfl⟩
  · exact ⟨fun c hc => show Lib.indexByte hexL c ≠ -1 from of_decide_eq_true hc, rfl⟩

/-! What stands at the front is read, and what is read stood at the front. -/
theorem next_put {ck : CK} (hg : Good ck) {l r : List UInt8} (h : l.all (inRow (alpha ck)) = true) {n : Int} (hn : (l.length : Int) = n) : nextL ck n (ck.put l ++ r) 0 = (l, r, 0) := by
  have hp := put_len hg h
  rw [hn] at hp
  have hs : (ck.size n).toNat = (ck.put l).length := by omega
  unfold nextL
  rw [if_neg (by decide), if_neg (by rw [List.length_append]; omega), hs, List.take_left, List.drop_left, ← hn, take_put hg h]
theorem next_short {ck : CK} {l : List UInt8} {n : Int} (h : (l.length : Int) < ck.size n) : nextL ck n l 0 = ([], l, 43) := by
  unfold nextL
  rw [if_neg (by decide), if_pos h]
theorem next_zero {ck : CK} (hg : Good ck) {l : List UInt8} {e n : Int} (hn : 0 ≤ n) (h : (nextL ck n l e).2.2 = 0) :
    e = 0 ∧ (nextL ck n l e).1.all (inRow (alpha ck)) = true ∧ ((nextL ck n l e).1.length : Int) = n ∧ l = ck.put (nextL ck n l e).1 ++ (nextL ck n l e).2.1 := by
  unfold nextL at h ⊢
  by_cases he : e = 0
  · rw [if_neg (by simpa using he)] at h ⊢
    by_cases hs : (l.length : Int) < ck.size n
    · rw [if_pos hs] at h; cases h
    · rw [if_neg hs] at h ⊢
      cases ht : ck.take (l.take (ck.size n).toNat) n with
      | none => rw [ht] at h; cases h
      | some t =>
        have hx : ((l.take (ck.size n).toNat).length : Int) = ck.size n := by
          have := size_nonneg ck hn
          rw [List.length_take]; omega
        obtain ⟨a, b⟩ := put_take hg hx ht
        refine ⟨he, a, fieldw.take_len hn hx ht, ?_⟩
        show l = ck.put t ++ l.drop _
        rw [b, List.take_append_drop]
  · rw [if_pos he] at h
    exact absurd h he
theorem told_size (n : Nat) : toldN (told n) = if n < 100 then (n : Int) else toldN (told n) := by
  split
  · rename_i h
    have : ∀ i : Fin 100, toldN (told i.1) = (i.1 : Int) := by decide
    exact this ⟨n, h⟩
  · rfl
theorem toldN_told {t : List UInt8} (h : t.all (inRow tenL) = true) (hl : t.length = 2) : told (toldN t).toNat = t := by
  obtain ⟨x, y, rfl⟩ : ∃ x y, t = [x, y] := by
    match t, hl with
    | [x, y], _ => exact ⟨x, y, rfl⟩
  simp only [List.all_cons, List.all_nil, Bool.and_true, Bool.and_eq_true] at h
  obtain ⟨i, hi, rfl⟩ := ten_val h.1
  obtain ⟨j, hj, rfl⟩ := ten_val h.2
  have : ∀ i j : Fin 10, told (toldN [UInt8.ofNat (48 + i.1), UInt8.ofNat (48 + j.1)]).toNat = [UInt8.ofNat (48 + i.1), UInt8.ofNat (48 + j.1)] := by decide
  exact this ⟨i, by omega⟩ ⟨j, by omega⟩
end Go.Proofs.Ytcgfbdleapjigaa.fieldl
