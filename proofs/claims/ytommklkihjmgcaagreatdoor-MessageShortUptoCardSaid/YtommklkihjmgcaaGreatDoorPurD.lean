/- Layer 5: Encode and Decode against one another: plain laws. No walk. Conditions: as each theorem says. -/
import Derived.Test.YtommklkihjmgcaaGreatDoorPurC
import Derived.Test.YtommklkihjmgcaaGreatDoorDecX
namespace Go.Proofs.YtommklkihjmgcaaGreatDoor.msgw
open Go.RowKit
open Go.Proofs.YtommklkihjmgcaaGreatDoor.msgp
open Go.Proofs.YtommklkihjmgcaaGreatDoor.fieldp
open Go.Proofs.YtommklkihjmgcaaGreatDoor.fieldw
open Go.Proofs.YtommklkihjmgcaaGreatDoor.fieldl
theorem errF_ne : ∀ {F : Flds} {last : Int} {e : Er}, errF last F = some e → erN e ≠ 0
  | [], _, _, h => by cases h
  | x :: r, last, e, h => by
    unfold errF at h
    split at h
    · obtain rfl := Option.some.inj h; exact (show (52 : Int) ≠ 0 by decide)
    · split at h
      · obtain rfl := Option.some.inj h; exact (show (52 : Int) ≠ 0 by decide)
      · split at h
        · exact errF_ne h
        · rename_i hne
          obtain rfl := Option.some.inj h
          exact hne
theorem encE_ne {out ty : Int} {F : Flds} {e : Er} (h : encE out ty F = some e) : erN e ≠ 0 := by
  unfold encE at h
  split at h
  · rename_i e' hck
    obtain rfl := Option.some.inj h
    unfold checkM at hck
    split at hck
    · obtain rfl := Option.some.inj hck; decide
    · split at hck
      · obtain rfl := Option.some.inj hck; decide
      · exact errF_ne hck
  · split at h
    · obtain rfl := Option.some.inj h; decide
    · cases h
theorem enc_ok {d ty : Int} {F : Flds} (h : (encR d ty F).2 = 0) : (1 ≤ d ∧ d ≤ 3) ∧ encE (dia d).2.2 ty F = none ∧ (encR d ty F).1 = encB (dia d).1 (dia d).2.1 (dia d).2.2 ty F := by
  unfold encR at h ⊢
  by_cases hd : 1 ≤ d ∧ d ≤ 3
  · rw [if_pos hd] at h ⊢
    refine ⟨hd, ?_, rfl⟩
    cases he : encE (dia d).2.2 ty F with
    | none => rfl
    | some e =>
      simp only [he, erZ] at h
      exact absurd h (encE_ne he)
  · rw [if_neg hd] at h
    cases h
theorem enc_bad {d ty : Int} {F : Flds} (h : (encR d ty F).2 ≠ 0) : (encR d ty F).1 = [] := by
  unfold encR at h ⊢
  by_cases hd : 1 ≤ d ∧ d ≤ 3
  · rw [if_pos hd] at h ⊢
    cases he : encE (dia d).2.2 ty F with
    | none => simp only [he, erZ] at h; exact absurd rfl h
    | some e => unfold encB; rw [he]
  · rw [if_neg hd]
theorem rt_more {d ty : Int} {F : Flds} (h : (encR d ty F).2 = 0) (r : List UInt8) : decR d (nums8 ((encR d ty F).1 ++ r)) = if r = [] then ((ty, F), 0) else ((0, []), 54) := by
  obtain ⟨hd, he, hb⟩ := enc_ok h
  obtain ⟨hc, hv, ho⟩ := dia_ok hd
  unfold decR
  rw [if_pos hd, hb, dec_enc hc hv ho he r]
  by_cases hr : r = []
  · rw [if_pos hr, hr, decFin_ok]
    rfl
  · rw [if_neg hr, decFin_more hr]
    rfl
theorem rt_back {d ty : Int} {F : Flds} (h : (encR d ty F).2 = 0) : decR d (nums8 (encR d ty F).1) = ((ty, F), 0) := by
  have := rt_more h []
  rw [List.append_nil, if_pos rfl] at this
  exact this
theorem rt_short {d ty : Int} {F : Flds} (h : (encR d ty F).2 = 0) {i : Nat} (hi : i < (encR d ty F).1.length) : decR d (nums8 ((encR d ty F).1.take i)) = ((0, []), 43) := by
  obtain ⟨hd, he, hb⟩ := enc_ok h
  obtain ⟨hc, hv, ho⟩ := dia_ok hd
  rw [hb] at hi ⊢
  obtain ⟨e, h1, h2⟩ := dec_cut hc hv ho he hi
  unfold decR
  rw [if_pos hd, h2]
  simp only [erZ, h1]
theorem rt_unlike {d ta tb : Int} {A B : Flds} (ha : (encR d ta A).2 = 0) (hb : (encR d tb B).2 = 0) : (encR d ta A).1 = (encR d tb B).1 ↔ ta = tb ∧ A = B := by
  constructor
  · intro h
    have h1 := rt_back ha
    rw [h, rt_back hb] at h1
    simp only [Prod.mk.injEq, and_true] at h1
    exact ⟨h1.1.symm, h1.2.symm⟩
  · rintro ⟨rfl, rfl⟩
    rfl
/-- Whatever was wrong has a number. -/
def GoodE (s : Rst) : Prop := ∀ e, s.2 = some e → erN e ≠ 0
theorem failM_good {s : Rst} (h : GoodE s) {n : Int} (hn : n ≠ 0) : GoodE (failM s n) := by
  unfold failM
  cases hs : s.2 with
  | some e => exact h
  | none => intro e he; obtain rfl := Option.some.inj he; exact hn
theorem takeM_good {s : Rst} (h : GoodE s) (k n c no : Int) : GoodE (takeM s k n c no).2 := by
  unfold takeM
  cases hs : s.2 with
  | some e => exact h
  | none =>
    simp only
    by_cases h0 : (takeR s.1 k n c).2.2 = 0
    · rw [if_pos h0]; intro e he; cases he
    · rw [if_neg h0]
      intro e he
      have he' := Option.some.inj he
      rw [← he']
      split <;> exact h0
theorem noForm_good {out : Int} : ∀ {L : List Int} {s : Rst}, GoodE s → GoodE (L.foldl (noForm out) s)
  | [], _, h => h
  | x :: r, s, h => by
    rw [List.foldl_cons]
    refine noForm_good ?_
    unfold noForm
    split
    · exact failM_good h (by decide)
    · exact h
theorem fld_good {code out : Int} : ∀ {L : List Int} {st : Rst × Flds}, GoodE st.1 → GoodE (L.foldl (fldStep code out) st).1
  | [], _, h => h
  | x :: r, st, h => by
    rw [List.foldl_cons]
    exact fld_good (takeM_good h _ _ _ _)
theorem decHead_good (code ver : Int) (l : List Int) : GoodE (decHead code ver l).2 := by
  have h0 : GoodE (l, none) := fun _ h => by cases h
  have h1 := takeM_good h0 1 4 code 0
  unfold decHead
  cases hs : (takeM (l, none) 1 4 code 0).2.2 with
  | some e => simp only [hs]; exact h1
  | none =>
    simp only [hs]
    split
    · exact failM_good h1 (by decide)
    · exact h1
theorem decMap_good {code : Int} {s : Rst} (h : GoodE s) : GoodE (decMap code s).2 := by
  have h1 := takeM_good h 4 8 code 0
  unfold decMap
  simp only
  split
  · have h2 := takeM_good h1 4 8 code 0
    simp only
    split
    · exact failM_good h2 (by decide)
    · exact h2
  · exact h1
theorem decM_good {code ver out : Int} {l : List Int} {e : Er} (h : (decM code ver out l).2 = some e) : erN e ≠ 0 := by
  have hg : GoodE ((nosM (decMap code (decHead code ver l).2).1).foldl (fldStep code out) ((nosM (decMap code (decHead code ver l).2).1).foldl (noForm out) (decMap code (decHead code ver l).2).2, [])).1 := fld_good (noForm_good (decMap_good (decHead_good code ver l)))
  unfold decM at h
  simp only at h
  obtain ⟨st, est⟩ : ∃ st, (nosM (decMap code (decHead code ver l).2).1).foldl (fldStep code out) ((nosM (decMap code (decHead code ver l).2).1).foldl (noForm out) (decMap code (decHead code ver l).2).2, []) = st := ⟨_, rfl⟩
  rw [est] at h hg
  have hg2 : GoodE (if 0 < st.1.1.length then failM st.1 54 else st.1) := by
    split
    · exact failM_good hg (by decide)
    · exact hg
  unfold decFin at h
  split at h
  · rename_i e' he
    obtain rfl := Option.some.inj h
    exact hg2 _ he
  · cases h
theorem dec_none {d : Int} {l : List Int} (h : (decR d l).2 ≠ 0) : (decR d l).1 = (0, []) := by
  unfold decR at h ⊢
  by_cases hd : 1 ≤ d ∧ d ≤ 3
  · rw [if_pos hd] at h ⊢
    simp only at h ⊢
    unfold decM decFin at h ⊢
    simp only at h ⊢
    split
    · rfl
    · rename_i he
      rw [he] at h
      exact absurd rfl h
  · rw [if_neg hd]
theorem ok_small {out : Int} {x : Fld} (h : OkF out x) : x.2.size ≤ 200 := by
  obtain ⟨⟨k, s, _, hck⟩, _⟩ := h
  have := fit_size (fit_of hck)
  have h2 : x.2.data.toList.length = x.2.size := by simp
  omega
theorem rt_read {d ty : Int} {b : List UInt8} {F : Flds} (h : decR d (nums8 b) = ((ty, F), 0)) : encR d ty F = (b, 0) ∧ F.length ≤ 17 ∧ ∀ x ∈ F, x.2.size ≤ 200 := by
  unfold decR at h
  by_cases hd : 1 ≤ d ∧ d ≤ 3
  · rw [if_pos hd] at h
    obtain ⟨hc, hv, ho⟩ := dia_ok hd
    have hn : (decM (dia d).1 (dia d).2.1 (dia d).2.2 (nums8 b)).2 = none := by
      cases hn : (decM (dia d).1 (dia d).2.1 (dia d).2.2 (nums8 b)).2 with
      | none => rfl
      | some e =>
        have h2 := congrArg Prod.snd h
        simp only [hn, erZ] at h2
        exact absurd h2 (decM_good hn)
    have h0 := congrArg Prod.fst h
    have h1 : decM (dia d).1 (dia d).2.1 (dia d).2.2 (nums8 b) = ((ty, F), none) := Prod.ext h0 hn
    obtain ⟨h2, h3, h4⟩ := enc_dec hc hv ho h1
    refine ⟨?_, h4, fun x hx => ok_small ((encE_none h2).2.2.2 x hx)⟩
    unfold encR
    rw [if_pos hd, h3, h2]
    rfl
  · rw [if_neg hd] at h
    cases h
/-- A dialect's first byte. -/
def frontB (d : Int) (x : UInt8) : Bool := if d = 1 then x == 48 else if d = 2 then decide (16 ≤ x.toNat ∧ x.toNat < 32) else x == 249
theorem front_enc {d ty : Int} {F : Flds} (h : (encR d ty F).2 = 0) : ∃ x r, (encR d ty F).1 = x :: r ∧ frontB d x = true := by
  obtain ⟨hd, he, hb⟩ := enc_ok h
  obtain ⟨ht, _, _, _⟩ := encE_none he
  rw [hb, encB_none he, List.append_assoc]
  have hm : ty ∈ typesL := by simpa using ht
  have key : ∀ dd ∈ ([1, 2, 3] : List Int), ∀ t ∈ typesL, ((headM (dia dd).1 (dia dd).2.1 t).head?.map (frontB dd)) = some true := by decide +kernel
  have h3 := key d (by simp; omega) ty hm
  cases hh : headM (dia d).1 (dia d).2.1 ty with
  | nil => rw [hh] at h3; cases h3
  | cons x r =>
    rw [hh] at h3
    exact ⟨x, _, rfl, by simpa using h3⟩
theorem rt_apart {one two ty : Int} {F : Flds} (h : (encR one ty F).2 = 0) (hne : one ≠ two) (h2 : 1 ≤ two ∧ two ≤ 3) : ∃ n, n ≠ 0 ∧ decR two (nums8 (encR one ty F).1) = ((0, []), n) := by
  by_cases h0 : (decR two (nums8 (encR one ty F).1)).2 = 0
  · exfalso
    obtain ⟨⟨⟨ty', F'⟩, n⟩, e⟩ : ∃ r, decR two (nums8 (encR one ty F).1) = r := ⟨_, rfl⟩
    rw [e] at h0
    obtain rfl : n = 0 := h0
    obtain ⟨h3, _, _⟩ := rt_read e
    obtain ⟨x, r, e1, e2⟩ := front_enc h
    obtain ⟨y, r', e3, e4⟩ := front_enc (d := two) (ty := ty') (F := F') (by rw [h3])
    rw [h3] at e3
    simp only at e3
    rw [e1] at e3
    obtain ⟨rfl, _⟩ := List.cons.inj e3
    have h1 := (enc_ok h).1
    have d1 : one = 1 ∨ one = 2 ∨ one = 3 := by omega
    have d2 : two = 1 ∨ two = 2 ∨ two = 3 := by omega
    have key : ∀ i : Fin 256, ∀ a ∈ ([1, 2, 3] : List Int), ∀ b ∈ ([1, 2, 3] : List Int), frontB a (UInt8.ofNat i.1) = true → frontB b (UInt8.ofNat i.1) = true → a = b := by decide +kernel
    have := key ⟨x.toNat, x.toNat_lt⟩ one (by simp; omega) two (by simp; omega) (by rw [UInt8.ofNat_toNat]; exact e2) (by rw [UInt8.ofNat_toNat]; exact e4)
    exact hne this
  · exact ⟨_, h0, Prod.ext (dec_none h0) rfl⟩
theorem enc_pos {d ty : Int} {F : Flds} (h : (encR d ty F).2 = 0) : 0 < (encR d ty F).1.length := by
  obtain ⟨x, r, e, _⟩ := front_enc h
  rw [e]
  simp
theorem body_len {code out : Int} (hc : 1 ≤ code ∧ code ≤ 3) (ho : out = 0 ∨ out = 2) : ∀ {F : Flds}, (∀ x ∈ F, OkF out x) → (bodyM code out F).length ≤ 1000 * F.length
  | [], _ => by simp [bodyM]
  | x :: r, h => by
    obtain ⟨k, s, hf, hck⟩ := (h x (by simp)).1
    obtain ⟨k', s', hf', hck'⟩ := put_ok hc ho hf hck
    have h1 := body_len hc ho (F := r) (fun y hy => h y (by simp [hy]))
    have h2 := bytes_small (fit_of hck')
    have : bodyM code out (x :: r) = putF code out x ++ bodyM code out r := rfl
    rw [this, putF_of hf', List.length_append, List.length_cons]
    omega
theorem enc_len (d ty : Int) (F : Flds) : (encR d ty F).1.length ≤ 100000 := by
  by_cases h : (encR d ty F).2 = 0
  · obtain ⟨hd, he, hb⟩ := enc_ok h
    obtain ⟨hc, hv, ho⟩ := dia_ok hd
    obtain ⟨ht, hl, _, hk⟩ := encE_none he
    have h1 := body_len hc ho hk
    have h2 := head_small hc hv ht
    have h3 := hex16_bytes hc (topBit (mapsM F))
    have h4 := hex16_bytes hc (mapsM F).2
    rw [hb, encB_none he, List.length_append, List.length_append]
    unfold mapB
    rw [List.length_append]
    split
    · simp only [List.length_nil]; omega
    · omega
  · rw [enc_bad h]
    decide
end Go.Proofs.YtommklkihjmgcaaGreatDoor.msgw
