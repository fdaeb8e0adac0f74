/- Plain laws of layer 4: a form's bytes: what is put is taken again, a part of it never is, and what is taken is what is put. No walk. -/
import Derived.Test.YtcgfbdleapjigaaFieldLaw
namespace Go.Proofs.Ytcgfbdleapjigaa.fieldl
open Go Go.Proofs.Ytcgfbdleapjigaa.fieldp Go.Proofs.Ytcgfbdleapjigaa.fieldw

/-- A form that may be, and a right text for it. -/
def Fit (k n _c : Int) (l : List UInt8) : Prop := (1 ≤ n ∧ n ≤ 64) ∧
  ((k = 5 ∧ ∃ a r, l = a :: r ∧ [a].all (inRow signsL) = true ∧ r.all (inRow tenL) = true ∧ (r.length : Int) = n) ∨
   (k = 2 ∧ 0 < l.length ∧ (l.length : Int) ≤ n ∧ l.all (inRow tenL) = true) ∨
   (k = 1 ∧ l.all (inRow tenL) = true ∧ (l.length : Int) = n) ∨
   (k = 3 ∧ l.all (inRow signsL) = true ∧ (l.length : Int) = n) ∨
   (k = 4 ∧ l.all (inRow hexL) = true ∧ (l.length : Int) = 2 * n))
theorem fit_of {k n c : Int} {l : List UInt8} (h : checkR k n c l = 0) : Fit k n c l := by
  obtain ⟨hm, hr⟩ := check_zero h
  have hm' : 1 ≤ k ∧ k ≤ 5 ∧ 1 ≤ n ∧ n ≤ 64 ∧ 1 ≤ c ∧ c ≤ 3 := by simpa [mayB] using hm
  refine ⟨⟨by omega, by omega⟩, ?_⟩
  unfold rightB at hr
  split at hr
  · rename_i h5
    left
    refine ⟨h5, ?_⟩
    cases l with
    | nil => cases hr
    | cons a r =>
      simp only [Bool.and_eq_true] at hr
      obtain ⟨h1, h2⟩ := ofB_all hr.2
      refine ⟨a, r, rfl, ?_, h1, h2⟩
      have : a = 67 ∨ a = 68 := by simpa using hr.1
      rcases this with rfl | rfl <;> decide
  · rename_i h5
    right
    split at hr
    · rename_i h1
      obtain ⟨a, b⟩ := ofB_all hr
      exact .inr (.inl ⟨h1, a, b⟩)
    · rename_i h1
      split at hr
      · rename_i h2
        simp only [Bool.and_eq_true, decide_eq_true_eq] at hr
        obtain ⟨a, _⟩ := ofB_all hr.2
        exact .inl ⟨h2, hr.1.1, hr.1.2, a⟩
      · rename_i h2
        split at hr
        · rename_i h3
          obtain ⟨a, b⟩ := ofB_all hr
          exact .inr (.inr (.inl ⟨h3, a, b⟩))
        · rename_i h3
          obtain ⟨a, b⟩ := ofB_all hr
          exact .inr (.inr (.inr ⟨by omega, a, b⟩))

/-- How many bytes a form's text takes. -/
def bytesN (k n c : Int) (m : Int) : Int :=
  if k = 5 then (lettersC c).size 1 + (digitsC c).size n
  else if k = 2 then (digitsC c).size 2 + (digitsC c).size m
  else if k = 1 then (digitsC c).size n
  else if k = 3 then (lettersC c).size n
  else (rawC c).size (2 * n)
theorem told_all {m : Nat} (h : m < 100) : (told m).all (inRow (alpha (digitsC 1))) = true := told_ok m h
theorem all_d {c : Int} {l : List UInt8} (h : l.all (inRow tenL) = true) : l.all (inRow (alpha (digitsC c))) = true := by rw [(good_digits c).2]; exact h
theorem all_l {c : Int} {l : List UInt8} (h : l.all (inRow signsL) = true) : l.all (inRow (alpha (lettersC c))) = true := by rw [(good_letters c).2]; exact h
theorem all_r {c : Int} {l : List UInt8} (h : l.all (inRow hexL) = true) : l.all (inRow (alpha (rawC c))) = true := by rw [(good_raw c).2]; exact h
theorem bytes_len {k n c : Int} {l : List UInt8} (h : Fit k n c l) : ((putBytes k c l).length : Int) = bytesN k n c l.length := by
  obtain ⟨hn, ⟨rfl, a, r, rfl, ha, hr, hl⟩ | ⟨rfl, h0, h1, hr⟩ | ⟨rfl, hr, hl⟩ | ⟨rfl, hr, hl⟩ | ⟨rfl, hr, hl⟩⟩ := h
  · have e1 := put_len (good_letters c).1 (all_l (c := c) ha)
    have e2 := put_len (good_digits c).1 (all_d (c := c) hr)
    rw [hl] at e2
    simp only [putBytes, bytesN, if_true, List.length_append, List.take_succ_cons, List.take_zero, List.tail_cons]
    have e1' : (((lettersC c).put [a]).length : Int) = (lettersC c).size 1 := e1
    omega
  · have e1 := put_len (good_digits c).1 (all_d (c := c) (told_ok l.length (by omega)))
    have e2 := put_len (good_digits c).1 (all_d (c := c) hr)
    have e1' : (((digitsC c).put (told l.length)).length : Int) = (digitsC c).size 2 := e1
    simp only [putBytes, bytesN, if_true]
    rw [if_neg (by decide), if_neg (by decide), List.length_append]
    omega
  · have e2 := put_len (good_digits c).1 (all_d (c := c) hr)
    rw [hl] at e2
    exact e2
  · have e2 := put_len (good_letters c).1 (all_l (c := c) hr)
    rw [hl] at e2
    exact e2
  · have e2 := put_len (good_raw c).1 (all_r (c := c) hr)
    rw [hl] at e2
    exact e2
theorem back {k n c : Int} {l : List UInt8} (h : Fit k n c l) (r : List UInt8) : textL k n c (putBytes k c l ++ r) = (l, r, 0) := by
  have hlen := bytes_len h
  obtain ⟨hn, ⟨rfl, a, x, rfl, ha, hx, hl⟩ | ⟨rfl, h0, h1, hx⟩ | ⟨rfl, hx, hl⟩ | ⟨rfl, hx, hl⟩ | ⟨rfl, hx, hl⟩⟩ := h
  · have hb : bytesN 5 n c (a :: x).length = (lettersC c).size 1 + (digitsC c).size n := rfl
    rw [hb] at hlen
    have hp : putBytes 5 c (a :: x) = (lettersC c).put [a] ++ (digitsC c).put x := rfl
    have h1 := next_put (good_letters c).1 (all_l (c := c) ha) (r := (digitsC c).put x ++ r) (n := 1) rfl
    have h2 := next_put (good_digits c).1 (all_d (c := c) hx) (r := r) hl
    have hs : ¬ (((putBytes 5 c (a :: x) ++ r).length : Int) < (lettersC c).size 1 + (digitsC c).size n) := by rw [List.length_append]; omega
    unfold textL
    rw [if_pos rfl, if_neg hs, hp, List.append_assoc, h1]
    simp only
    rw [h2]
    rfl
  · have ht := all_d (c := c) (told_ok l.length (by omega))
    have hp : putBytes 2 c l = (digitsC c).put (told l.length) ++ (digitsC c).put l := rfl
    have h2 := next_put (good_digits c).1 ht (r := (digitsC c).put l ++ r) (n := 2) rfl
    have h3 := next_put (good_digits c).1 (all_d (c := c) hx) (r := r) (n := l.length) rfl
    have hz := told_size l.length
    rw [if_pos (by omega)] at hz
    unfold textL
    rw [if_neg (by decide), if_pos rfl, hp, List.append_assoc, h2]
    simp only
    rw [if_neg (by simp), hz, if_neg (by omega), h3]
  · exact next_put (good_digits c).1 (all_d (c := c) hx) hl
  · exact next_put (good_letters c).1 (all_l (c := c) hx) hl
  · exact next_put (good_raw c).1 (all_r (c := c) hx) hl
theorem short {k n c : Int} {l : List UInt8} (h : Fit k n c l) (i : Nat) (hi : i < (putBytes k c l).length) : (textL k n c ((putBytes k c l).take i)).2.2 = 43 := by
  have hlen := bytes_len h
  have hti : (((putBytes k c l).take i).length : Int) = i := by rw [List.length_take]; omega
  obtain ⟨hn, ⟨rfl, a, x, rfl, ha, hx, hl⟩ | ⟨rfl, h0, h1, hx⟩ | ⟨rfl, hx, hl⟩ | ⟨rfl, hx, hl⟩ | ⟨rfl, hx, hl⟩⟩ := h
  · have hb : bytesN 5 n c (a :: x).length = (lettersC c).size 1 + (digitsC c).size n := rfl
    rw [hb] at hlen
    unfold textL
    rw [if_pos rfl, if_pos (by omega)]
  · have ht := all_d (c := c) (told_ok l.length (by omega))
    have hp : putBytes 2 c l = (digitsC c).put (told l.length) ++ (digitsC c).put l := rfl
    have e1 := put_len (good_digits c).1 ht
    have e1' : (((digitsC c).put (told l.length)).length : Int) = (digitsC c).size 2 := e1
    have e2 := put_len (good_digits c).1 (all_d (c := c) hx)
    have hb : bytesN 2 n c l.length = (digitsC c).size 2 + (digitsC c).size l.length := rfl
    rw [hb] at hlen
    unfold textL
    rw [if_neg (by decide), if_pos rfl]
    by_cases hs : (i : Int) < (digitsC c).size 2
    · rw [next_short (by omega)]
      rw [if_pos (by simp)]
    · have hcut : (putBytes 2 c l).take i = (digitsC c).put (told l.length) ++ ((digitsC c).put l).take (i - ((digitsC c).put (told l.length)).length) := by
        rw [hp, List.take_append, List.take_of_length_le (by omega)]
      have h2 := next_put (good_digits c).1 ht (r := ((digitsC c).put l).take (i - ((digitsC c).put (told l.length)).length)) (n := 2) rfl
      have hz := told_size l.length
      rw [if_pos (by omega)] at hz
      rw [hcut, h2]
      simp only
      rw [if_neg (by simp), hz, if_neg (by omega), next_short (by rw [List.length_take]; omega)]
  · have hb : bytesN 1 n c l.length = (digitsC c).size n := rfl
    rw [hb] at hlen
    have e : textL 1 n c ((putBytes 1 c l).take i) = nextL (digitsC c) n ((putBytes 1 c l).take i) 0 := rfl
    rw [e, next_short (by omega)]
  · have hb : bytesN 3 n c l.length = (lettersC c).size n := rfl
    rw [hb] at hlen
    have e : textL 3 n c ((putBytes 3 c l).take i) = nextL (lettersC c) n ((putBytes 3 c l).take i) 0 := rfl
    rw [e, next_short (by omega)]
  · have hb : bytesN 4 n c l.length = (rawC c).size (2 * n) := rfl
    rw [hb] at hlen
    have e : textL 4 n c ((putBytes 4 c l).take i) = nextL (rawC c) (2 * n) ((putBytes 4 c l).take i) 0 := rfl
    rw [e, next_short (by omega)]
theorem front {k n c : Int} {b : List UInt8} (hm : mayB k n c = true) (h : (textL k n c b).2.2 = 0) : b = putBytes k c (textL k n c b).1 ++ (textL k n c b).2.1 := by
  have hm' : 1 ≤ k ∧ k ≤ 5 ∧ 1 ≤ n ∧ n ≤ 64 ∧ 1 ≤ c ∧ c ≤ 3 := by simpa [mayB] using hm
  rcases (show k = 1 ∨ k = 2 ∨ k = 3 ∨ k = 4 ∨ k = 5 by omega) with rfl | rfl | rfl | rfl | rfl
  · have e : textL 1 n c b = nextL (digitsC c) n b 0 := rfl
    rw [e] at h ⊢
    have hz := (next_zero (good_digits c).1 (by omega) h).2.2.2
    have hp : ∀ x, putBytes 1 c x = (digitsC c).put x := fun _ => rfl
    rw [hp]
    exact hz
  · unfold textL at h ⊢
    rw [if_neg (by decide), if_pos rfl] at h ⊢
    by_cases h1 : (nextL (digitsC c) 2 b 0).2.2 ≠ 0
    · rw [if_pos h1] at h
      exact absurd h h1
    · rw [if_neg h1] at h ⊢
      obtain ⟨_, ha, hl, hb⟩ := next_zero (good_digits c).1 (n := 2) (by decide) (by simpa using h1)
      generalize nextL (digitsC c) 2 b 0 = A at h ha hl hb ⊢
      obtain ⟨t, r, e⟩ := A
      simp only at h ha hl hb ⊢
      rw [(good_digits c).2] at ha
      have hr := toldN_range t
      obtain ⟨he, ha2, hl2, hb2⟩ := next_zero (good_digits c).1 (by omega) h
      have ht := toldN_told ha (by omega)
      have hrange : ¬ (toldN t < 1 ∨ n < toldN t) := by
        intro hc
        rw [if_pos hc] at he
        cases he
      rw [if_neg hrange] at hl2 hb2 ⊢
      generalize nextL (digitsC c) (toldN t) r 0 = B at hl2 hb2 ⊢
      obtain ⟨t2, r2, e2⟩ := B
      simp only at hl2 hb2 ⊢
      have hp : putBytes 2 c t2 = (digitsC c).put (told t2.length) ++ (digitsC c).put t2 := rfl
      rw [hp, show t2.length = (toldN t).toNat by omega, ht, List.append_assoc, ← hb2]
      exact hb
  · have e : textL 3 n c b = nextL (lettersC c) n b 0 := rfl
    rw [e] at h ⊢
    have hz := (next_zero (good_letters c).1 (by omega) h).2.2.2
    have hp : ∀ x, putBytes 3 c x = (lettersC c).put x := fun _ => rfl
    rw [hp]
    exact hz
  · have e : textL 4 n c b = nextL (rawC c) (2 * n) b 0 := rfl
    rw [e] at h ⊢
    have hz := (next_zero (good_raw c).1 (by omega) h).2.2.2
    have hp : ∀ x, putBytes 4 c x = (rawC c).put x := fun _ => rfl
    rw [hp]
    exact hz
  · unfold textL at h ⊢
    rw [if_pos rfl] at h ⊢
    by_cases h1 : (b.length : Int) < (lettersC c).size 1 + (digitsC c).size n
    · rw [if_pos h1] at h; cases h
    · rw [if_neg h1] at h ⊢
      simp only at h ⊢
      obtain ⟨he, ha2, hl2, hb2⟩ := next_zero (good_digits c).1 (by omega) h
      obtain ⟨_, ha, hl, hb⟩ := next_zero (good_letters c).1 (by decide) he
      generalize nextL (lettersC c) 1 b 0 = A at *
      obtain ⟨t, r, e⟩ := A
      simp only at *
      generalize nextL (digitsC c) n r e = B at *
      obtain ⟨t2, r2, e2⟩ := B
      simp only at *
      obtain ⟨x, rfl⟩ : ∃ x, t = [x] := by
        match t, (show t.length = 1 by omega) with
        | [x], _ => exact ⟨x, rfl⟩
      have hp : putBytes 5 c ([x] ++ t2) = (lettersC c).put [x] ++ (digitsC c).put t2 := rfl
      rw [hp, List.append_assoc, ← hb2]
      exact hb
theorem fit_size {k n c : Int} {l : List UInt8} (h : Fit k n c l) : (l.length : Int) ≤ 200 := by
  obtain ⟨hn, ⟨rfl, a, x, rfl, ha, hx, hl⟩ | ⟨rfl, h0, h1, hx⟩ | ⟨rfl, hx, hl⟩ | ⟨rfl, hx, hl⟩ | ⟨rfl, hx, hl⟩⟩ := h
  · simp only [List.length_cons]; omega
  · omega
  · omega
  · omega
  · omega
theorem bytes_small {k n c : Int} {l : List UInt8} (h : Fit k n c l) : (putBytes k c l).length ≤ 1000 := by
  have h1 := bytes_len h
  have h2 := fit_size h
  have hn := h.1
  have s1 := size_range (lettersC c) (n := 1) (by decide) (by decide)
  have s2 := size_range (digitsC c) (n := 2) (by decide) (by decide)
  have sz : ∀ (ck : CK) (m : Int), 0 ≤ m → m ≤ 200 → ck.size m ≤ 200 := by
    intro ck m a b
    cases ck with
    | plain f t => exact b
    | packed d => show (m + 1) / 2 ≤ 200; omega
  have a1 := sz (lettersC c) 1 (by decide) (by decide)
  have a2 := sz (digitsC c) 2 (by decide) (by decide)
  have a3 := sz (digitsC c) n (by omega) (by omega)
  have a4 := sz (digitsC c) l.length (by omega) (by omega)
  have a5 := sz (lettersC c) n (by omega) (by omega)
  have a6 := sz (rawC c) (2 * n) (by omega) (by omega)
  unfold bytesN at h1
  split at h1
  · omega
  · split at h1
    · omega
    · split at h1
      · omega
      · split at h1 <;> omega
theorem putR_zero {l0 : List Int} {k n c : Int} {s : ByteArray} (h : (putR l0 k n c s).2 = 0) : checkR k n c s.data.toList = 0 ∧ (putR l0 k n c s).1 = l0 ++ nums8 (putBytes k c s.data.toList) := by
  unfold putR at h ⊢
  by_cases hc : checkR k n c s.data.toList = 0
  · rw [if_pos hc]
    exact ⟨hc, rfl⟩
  · rw [if_neg hc] at h
    exact absurd h hc
theorem putR_ne {l0 : List Int} {k n c : Int} {s : ByteArray} (h : (putR l0 k n c s).2 ≠ 0) : checkR k n c s.data.toList = (putR l0 k n c s).2 ∧ (putR l0 k n c s).1 = [] := by
  unfold putR at h ⊢
  by_cases hc : checkR k n c s.data.toList = 0
  · rw [if_pos hc] at h
    exact absurd rfl h
  · rw [if_neg hc]
    exact ⟨rfl, rfl⟩
theorem putR_of {k n c : Int} {s : ByteArray} (l0 : List Int) (h : checkR k n c s.data.toList = 0) : putR l0 k n c s = (l0 ++ nums8 (putBytes k c s.data.toList), 0) := by
  unfold putR
  rw [if_pos h]
theorem str_nums (l : List UInt8) : strOfNums (nums8 l) = ⟨l.toArray⟩ := by
  unfold strOfNums nums8
  rw [List.map_map]
  have : ((fun n : Int => UInt8.ofNat n.toNat) ∘ fun b : UInt8 => (b.toNat : Int)) = id := by
    funext b
    simp
  rw [this, List.map_id]
theorem nums_str {l : List Int} (h : ∀ a ∈ l, 0 ≤ a ∧ a < 256) : nums8 (strOfNums l).data.toList = l := by
  rw [strOfNums_data]
  unfold nums8
  rw [List.map_map]
  refine (List.map_congr_left (fun a ha => ?_)).trans (List.map_id _)
  have := h a ha
  show ((UInt8.ofNat a.toNat).toNat : Int) = a
  rw [UInt8.toNat_ofNat_of_lt' (by show a.toNat < 256; omega)]
  omega
theorem arr_list {a b : ByteArray} (h : a.data.toList = b.data.toList) : a = b := by
  cases a; cases b
  simp only [ByteArray.mk.injEq]
  exact Array.ext' h
theorem takeR_ne {l : List Int} {k n c : Int} (h : (takeR l k n c).2.2 ≠ 0) : (takeR l k n c).1 = ⟨#[]⟩ ∧ (takeR l k n c).2.1 = [] := by
  unfold takeR at h ⊢
  split
  · rename_i hm
    rw [if_pos hm] at h
    split
    · exact ⟨rfl, rfl⟩
    · rename_i he
      rw [if_neg he] at h
      split
      · rename_i hr
        rw [if_pos hr] at h
        exact absurd rfl h
      · exact ⟨rfl, rfl⟩
  · exact ⟨rfl, rfl⟩
theorem takeR_zero {l : List Int} {k n c : Int} (h : (takeR l k n c).2.2 = 0) : checkR k n c (takeR l k n c).1.data.toList = 0 ∧ (strOfNums l).data.toList = putBytes k c (takeR l k n c).1.data.toList ++ (strOfNums (takeR l k n c).2.1).data.toList := by
  unfold takeR at h ⊢
  by_cases hm : mayB k n c = true
  · rw [if_pos hm] at h ⊢
    by_cases he : (textL k n c (strOfNums l).data.toList).2.2 ≠ 0
    · rw [if_pos he] at h
      exact absurd h he
    · rw [if_neg he] at h ⊢
      by_cases hr : rightB k n (textL k n c (strOfNums l).data.toList).1 = true
      · rw [if_pos hr]
        refine ⟨?_, ?_⟩
        · show checkR k n c (textL k n c (strOfNums l).data.toList).1 = 0
          simp [checkR, hm, hr]
        · simp only
          rw [str_nums]
          exact front hm (by simpa using he)
      · rw [if_neg hr] at h
        cases h
  · rw [if_neg hm] at h
    cases h
theorem takeR_back {k n c : Int} {t : List UInt8} (h : checkR k n c t = 0) (l : List Int) (r : List UInt8) (hl : (strOfNums l).data.toList = putBytes k c t ++ r) : takeR l k n c = (⟨t.toArray⟩, nums8 r, 0) := by
  obtain ⟨hm, hr⟩ := check_zero h
  have hb := back (fit_of h) r
  unfold takeR
  rw [if_pos hm, hl, hb]
  simp only
  rw [if_neg (by simp), if_pos hr]
theorem takeR_short {k n c : Int} {t : List UInt8} (h : checkR k n c t = 0) (l : List Int) (i : Nat) (hi : i < (putBytes k c t).length) (hl : (strOfNums l).data.toList = (putBytes k c t).take i) : (takeR l k n c).2.2 = 43 := by
  obtain ⟨hm, _⟩ := check_zero h
  have hb := short (fit_of h) i hi
  unfold takeR
  rw [if_pos hm, hl, if_pos (by rw [hb]; decide)]
  exact hb
end Go.Proofs.Ytcgfbdleapjigaa.fieldl
