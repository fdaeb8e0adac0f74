/- Layer 20: the fields that there are of some numbers. No walk. -/
import Derived.Test.YtjndfmpicnkplaaGreatDoorRecN
namespace Go.Proofs.YtjndfmpicnkplaaGreatDoor.msgw
open Go.RowKit
open Go.Proofs.YtjndfmpicnkplaaGreatDoorW.PrintWords (bt bt_at)
open Go.Proofs.YtjndfmpicnkplaaGreatDoor.msgp
open Go.Proofs.YtjndfmpicnkplaaGreatDoor.buf
open Go.Proofs.YtjndfmpicnkplaaGreatDoor.fieldp
open Go.Proofs.YtjndfmpicnkplaaGreatDoor.fieldw
def sel (F : Flds) (nos : List Int) : Flds := nos.filterMap fun no => (getM F no).map fun s => (no, s)
theorem setM_last {acc : Flds} {no : Int} (s : ByteArray) (h : ∀ x ∈ acc, x.1 < no) : setM acc no s = acc ++ [(no, s)] := by
  have h1 : delM acc no = acc := List.filter_eq_self.2 fun x hx => by have := h x hx; simp; omega
  have h2 : spot acc no = acc.length := List.findIdx_eq_length.2 fun x hx => by have := h x hx; simp; omega
  unfold setM
  rw [h1]
  unfold insM
  rw [h2, List.take_length, List.drop_length]
theorem copyM_sel (F : Flds) : ∀ (nos : List Int) (acc : Flds), nos.Pairwise (· < ·) → (∀ x ∈ acc, ∀ no ∈ nos, x.1 < no) → copyM F nos acc = acc ++ sel F nos
  | [], acc, _, _ => by simp [copyM, sel]
  | no :: r, acc, hp, ha => by
    obtain ⟨h1, h2⟩ := List.pairwise_cons.1 hp
    have hc : copyM F (no :: r) acc = copyM F r (match getM F no with | none => acc | some s => setM acc no s) := rfl
    rw [hc]
    cases e : getM F no with
    | none =>
      dsimp only
      rw [copyM_sel F r acc h2 (fun x hx n hn => ha x hx n (List.mem_cons_of_mem _ hn))]
      simp [sel, e]
    | some s =>
      dsimp only
      rw [setM_last s (fun x hx => ha x hx no List.mem_cons_self), copyM_sel F r _ h2 (fun x hx n hn => by
        rcases List.mem_append.1 hx with hx | hx
        · exact ha x hx n (List.mem_cons_of_mem _ hn)
        · obtain rfl := List.mem_singleton.1 hx
          exact h1 n hn)]
      simp [sel, e]
theorem sel_short (F : Flds) : ∀ (nos : List Int) (no : Int), no ∈ nos → getM F no = none → (sel F nos).length < nos.length
  | n :: r, no, hm, h => by
    have hle : (sel F r).length ≤ r.length := List.length_filterMap_le _ _
    rcases List.mem_cons.1 hm with rfl | hm
    · rw [show sel F (no :: r) = sel F r by simp [sel, h], List.length_cons]; omega
    · have ih := sel_short F r no hm h
      cases e : getM F n with
      | none => rw [show sel F (n :: r) = sel F r by simp [sel, e], List.length_cons]; omega
      | some s => rw [show sel F (n :: r) = (n, s) :: sel F r by simp [sel, e], List.length_cons, List.length_cons]; omega
theorem read_miss (F : Flds) {no : Int} (hm : no ∈ readNos) (h : getM F no = none) : readR 500 F = ([0, 0, 0, 0, 0], 52) := by
  unfold readR
  rw [if_neg (by decide), copyM_sel F readNos [] (by decide) (fun x hx => by cases hx), List.nil_append, if_pos (show (sel F readNos).length < 8 from sel_short F readNos no hm h)]
theorem valOf_dig {n : Int} {s : ByteArray} (_hn : 1 ≤ n) (h : checkR 1 n 1 s.data.toList = 0) : valOf n s = (amountR s.data.toList).1 := by
  have h1 : ofB s.data.toList tenL n = true := checkR_of h
  have h2 := ofB_len h1
  have hs : s.data.toList.length = s.size := by simp
  have h3 := (ofB_all h1).1
  have e1 : ((s.size : Int) - n).toNat = 0 := by omega
  have e2 : s.extract 0 s.size = s := ByteArray.ext (by simp)
  unfold valOf
  rw [e1, e2, if_neg]
  intro hc
  have hm : (68 : UInt8) ∈ s.data.toList := List.mem_of_mem_head? hc
  have := List.all_eq_true.1 h3 _ hm
  revert this
  decide
theorem valOf_x {s : ByteArray} (h : checkR 5 16 1 s.data.toList = 0) : s.size = 17 ∧ valOf 16 s = if bt s 0 = 68 then wrap64 (-(amountR (s.extract 1 s.size).data.toList).1) else (amountR (s.extract 1 s.size).data.toList).1 := by
  have h3 : (match s.data.toList with | [] => false | c :: r => (c == 67 || c == 68) && ofB r tenL 16) = true := checkR_of h
  have hs : s.data.toList.length = s.size := by simp
  have h17 : s.size = 17 := by
    cases hl : s.data.toList with
    | nil => rw [hl] at h3; cases h3
    | cons c r =>
      rw [hl] at h3 hs
      simp only [Bool.and_eq_true] at h3
      have h2 := ofB_len h3.2
      simp only [List.length_cons] at hs
      omega
  refine ⟨h17, ?_⟩
  have hb : bt s 0 = (s[0].toNat : Int) := (bt_at s 0 (by omega)).symm
  have hr := amountR_range (s.extract 1 s.size)
  unfold valOf
  rw [show ((s.size : Int) - 16).toNat = 1 by omega, head_s s (by omega), hb]
  by_cases hc : s[0] = 68
  · rw [if_pos (by rw [hc]), if_pos (by rw [hc]; rfl), IntWalk.wrap64_in _ ⟨by omega, by omega⟩]
  · rw [if_neg (fun e => hc (Option.some.inj e)), if_neg (fun e => hc (UInt8.toNat_inj.1 (by have : ((68 : UInt8).toNat : Int) = 68 := rfl; omega)))]
end Go.Proofs.YtjndfmpicnkplaaGreatDoor.msgw
