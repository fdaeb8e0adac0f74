/- Layer 5: what is read is written as these bytes: plain laws. No walk. Layer 5: Encode and Decode against one another: plain laws. No walk. Layer 5: the map's bytes: plain laws. No walk. Conditions: as each theorem says. -/
import Derived.Test.YtommklkihjmgcaaGreatDoorPurX
import Derived.Test.YtommklkihjmgcaaGreatDoorDecX
namespace Go.Proofs.YtommklkihjmgcaaGreatDoor.msgw
open Go.RowKit
open Go.Proofs.YtommklkihjmgcaaGreatDoor.msgp
open Go.Proofs.YtommklkihjmgcaaGreatDoor.fieldp
open Go.Proofs.YtommklkihjmgcaaGreatDoor.fieldw
open Go.Proofs.YtommklkihjmgcaaGreatDoor.fieldl
theorem byte_ofNat {c : UInt8} {n : Nat} (h : c.toNat = n) : c = UInt8.ofNat n := by rw [← h, UInt8.ofNat_toNat]
end Go.Proofs.YtommklkihjmgcaaGreatDoor.msgw
namespace Go.Proofs.YtommklkihjmgcaaGreatDoor.msgw
open Go.RowKit
open Go.Proofs.YtommklkihjmgcaaGreatDoor.msgp
open Go.Proofs.YtommklkihjmgcaaGreatDoor.fieldp
open Go.Proofs.YtommklkihjmgcaaGreatDoor.fieldw
open Go.Proofs.YtommklkihjmgcaaGreatDoor.fieldl
theorem errF_ne : ∀ {F : Flds} {last : Int} {e : Er}, errF last F = some e → erN e ≠ 0
  | [], _, _, h => by cases h
  | x :: r, last, e, h => by
    unfold errF at h
    split at h
    · obtain rfl := Option.some.inj h; exact (show (52 : Int) ≠ 0 by decide)
    · split at h
      · obtain rfl := Option.some.inj h; exact (show (52 : Int) ≠ 0 by decide)
      · split at h
        · exact errF_ne h
        · rename_i hne
          obtain rfl := Option.some.inj h
          exact hne
theorem encE_ne {out ty : Int} {F : Flds} {e : Er} (h : encE out ty F = some e) : erN e ≠ 0 := by
  unfold encE at h
  split at h
  · rename_i e' hck
    obtain rfl := Option.some.inj h
    unfold checkM at hck
    split at hck
    · obtain rfl := Option.some.inj hck; decide
    · split at hck
      · obtain rfl := Option.some.inj hck; decide
      · exact errF_ne hck
  · split at h
    · obtain rfl := Option.some.inj h; decide
    · cases h
theorem enc_ok {d ty : Int} {F : Flds} (h : (encR d ty F).2 = 0) : (1 ≤ d ∧ d ≤ 3) ∧ encE (dia d).2.2 ty F = none ∧ (encR d ty F).1 = encB (dia d).1 (dia d).2.1 (dia d).2.2 ty F := by
  unfold encR at h ⊢
  by_cases hd : 1 ≤ d ∧ d ≤ 3
  · rw [if_pos hd] at h ⊢
    refine ⟨hd, ?_, rfl⟩
    cases he : encE (dia d).2.2 ty F with
    | none => rfl
    | some e =>
      simp only [he, erZ] at h
      exact absurd h (encE_ne he)
  · rw [if_neg hd] at h
    cases h
theorem enc_bad {d ty : Int} {F : Flds} (h : (encR d ty F).2 ≠ 0) : (encR d ty F).1 = [] := by
  unfold encR at h ⊢
  by_cases hd : 1 ≤ d ∧ d ≤ 3
  · rw [if_pos hd] at h ⊢
    cases he : encE (dia d).2.2 ty F with
    | none => simp only [he, erZ] at h; exact absurd rfl h
    | some e => unfold encB; rw [he]
  · rw [if_neg hd]
theorem rt_more {d ty : Int} {F : Flds} (h : (encR d ty F).2 = 0) (r : List UInt8) : decR d (nums8 ((encR d ty F).1 ++ r)) = if r = [] then ((ty, F), 0) else ((0, []), 54) := by
  obtain ⟨hd, he, hb⟩ := enc_ok h
  obtain ⟨hc, hv, ho⟩ := dia_ok hd
  unfold decR
  rw [if_pos hd, hb, dec_enc hc hv ho he r]
  by_cases hr : r = []
  · rw [if_pos hr, hr, decFin_ok]
    rfl
  · rw [if_neg hr, decFin_more hr]
    rfl
theorem rt_back {d ty : Int} {F : Flds} (h : (encR d ty F).2 = 0) : decR d (nums8 (encR d ty F).1) = ((ty, F), 0) := by
  have := rt_more h []
  rw [List.append_nil, if_pos rfl] at this
  exact this
/-- Whatever was wrong has a number. -/
def GoodE (s : Rst) : Prop := ∀ e, s.2 = some e → erN e ≠ 0
theorem ok_small {out : Int} {x : Fld} (h : OkF out x) : x.2.size ≤ 200 := by
  obtain ⟨⟨k, s, _, hck⟩, _⟩ := h
  have := fit_size (fit_of hck)
  have h2 : x.2.data.toList.length = x.2.size := by simp
  omega
/-- A dialect's first byte. -/
def frontB (d : Int) (x : UInt8) : Bool := if d = 1 then x == 48 else if d = 2 then decide (16 ≤ x.toNat ∧ x.toNat < 32) else x == 249
theorem body_len {code out : Int} (hc : 1 ≤ code ∧ code ≤ 3) (ho : out = 0 ∨ out = 2) : ∀ {F : Flds}, (∀ x ∈ F, OkF out x) → (bodyM code out F).length ≤ 1000 * F.length
  | [], _ => by simp [bodyM]
  | x :: r, h => by
    obtain ⟨k, s, hf, hck⟩ := (h x (by simp)).1
    obtain ⟨k', s', hf', hck'⟩ := put_ok hc ho hf hck
    have h1 := body_len hc ho (F := r) (fun y hy => h y (by simp [hy]))
    have h2 := bytes_small (fit_of hck')
    have : bodyM code out (x :: r) = putF code out x ++ bodyM code out r := rfl
    rw [this, putF_of hf', List.length_append, List.length_cons]
    omega
end Go.Proofs.YtommklkihjmgcaaGreatDoor.msgw
namespace Go.Proofs.YtommklkihjmgcaaGreatDoor.msgw
open Go.RowKit
open Go.Proofs.YtommklkihjmgcaaGreatDoor.msgp
open Go.Proofs.YtommklkihjmgcaaGreatDoor.fieldp
open Go.Proofs.YtommklkihjmgcaaGreatDoor.fieldw
open Go.Proofs.YtommklkihjmgcaaGreatDoor.fieldl
theorem numH_foldl : ∀ (l : List UInt8) (a : Nat), l.foldl (fun a c => 16 * a + hv c) a = a * 16 ^ l.length + numH l
  | [], a => by simp [numH]
  | c :: r, a => by
    have h0 := numH_foldl r (16 * a + hv c)
    have h1 := numH_foldl r (hv c)
    have h2 : numH (c :: r) = hv c * 16 ^ r.length + numH r := by
      rw [← h1]
      simp [numH]
    rw [List.foldl_cons, h0, h2, List.length_cons, Nat.pow_succ, Nat.add_mul, Nat.mul_comm 16 a, Nat.mul_assoc, Nat.mul_comm 16, Nat.add_assoc]
theorem numH_cons (c : UInt8) (r : List UInt8) : numH (c :: r) = hv c * 16 ^ r.length + numH r := by
  rw [← numH_foldl r (hv c)]
  simp [numH]
theorem packE_byte : ∀ (k : Nat) (l : List UInt8), l.length = 2 * k → l.all (inRow hexL) = true → ∀ j, j < k → ((packE l)[j]?.map UInt8.toNat) = some (numH l / 256 ^ (k - 1 - j) % 256)
  | 0, _, _, _, j, hj => by omega
  | k + 1, l, hl, hall, j, hj => by
    match l, hl with
    | a :: b :: r, hl =>
      simp only [List.length_cons] at hl
      simp only [List.all_cons, Bool.and_eq_true] at hall
      obtain ⟨ha, hb, hr⟩ := hall
      have ha' := hv_lt (c := a) (by simpa [isHex, inRow] using ha)
      have hb' := hv_lt (c := b) (by simpa [isHex, inRow] using hb)
      have hrl : r.length = 2 * k := by omega
      have hN : numH (a :: b :: r) = (16 * hv a + hv b) * 256 ^ k + numH r := by
        rw [numH_cons, numH_cons, List.length_cons, hrl, show (16 : Nat) ^ (2 * k + 1) = 16 * 256 ^ k by rw [Nat.pow_succ, Nat.pow_mul, Nat.mul_comm], show (16 : Nat) ^ (2 * k) = 256 ^ k by rw [Nat.pow_mul], Nat.add_mul, Nat.add_assoc]
        congr 1
        ac_rfl
      have hlt : numH r < 256 ^ k := by
        have := numH_lt hr
        rw [hrl, Nat.pow_mul] at this
        exact this
      have hE : packE (a :: b :: r) = (16 * hv a + hv b).toUInt8 :: packE r := rfl
      rw [hE, hN]
      cases j with
      | zero =>
        simp only [List.getElem?_cons_zero, Option.map_some, Option.some.injEq, Nat.add_sub_cancel, Nat.sub_zero]
        have hq : ((16 * hv a + hv b) * 256 ^ k + numH r) / 256 ^ k = 16 * hv a + hv b := by
          rw [Nat.add_comm, Nat.add_mul_div_right _ _ (Nat.pow_pos (by decide)), Nat.div_eq_of_lt hlt, Nat.zero_add]
        rw [hq]
        show (UInt8.ofNat (16 * hv a + hv b)).toNat = _
        rw [UInt8.toNat_ofNat']
      | succ j =>
        rw [List.getElem?_cons_succ, packE_byte k r hrl hr j (by omega), Option.some.injEq]
        have e1 : k + 1 - 1 - (j + 1) = k - 1 - j := by omega
        have e2 : (256 : Nat) ^ k = 256 ^ (k - 1 - j) * (256 * 256 ^ j) := by
          rw [← Nat.pow_succ', ← Nat.pow_add]
          congr 1
          omega
        have e3 : ((16 * hv a + hv b) * 256 ^ k + numH r) / 256 ^ (k - 1 - j) = numH r / 256 ^ (k - 1 - j) + 256 * (256 ^ j * (16 * hv a + hv b)) := by
          rw [e2, show (16 * hv a + hv b) * (256 ^ (k - 1 - j) * (256 * 256 ^ j)) + numH r = numH r + (256 * (256 ^ j * (16 * hv a + hv b))) * 256 ^ (k - 1 - j) by rw [Nat.add_comm]; congr 1; ac_rfl, Nat.add_mul_div_right _ _ (Nat.pow_pos (by decide))]
        rw [e1, e3, Nat.add_mul_mod_self_left]
def farM (F : Flds) (n : Int) : Bool := F.any fun x => decide (64 < x.1 ∧ x.1 < n)
end Go.Proofs.YtommklkihjmgcaaGreatDoor.msgw
