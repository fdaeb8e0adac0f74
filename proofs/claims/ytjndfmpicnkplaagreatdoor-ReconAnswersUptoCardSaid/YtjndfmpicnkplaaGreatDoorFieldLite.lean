/- Walks of layer 4: right, Check, Digits, Amount. Conditions: as each theorem says. -/
import Derived.Test.YtjndfmpicnkplaaGreatDoorShelf
import Derived.Test.YtjndfmpicnkplaaGreatDoorFieldPlain
import Derived.WalkKit
import Derived.LoopTactic
import Derived.Deep.LoopGhost
import Derived.WalkSpells
import Derived.WalkLawsBesides
import Derived.Lib.Hide
import Derived.Outline
import Derived.StillTailTactics
import Derived.Laws.BitsAllLaws
import Derived.Laws.BitsLemmas
import Derived.Laws.EntriesVeiled
import Derived.Laws.IdiomStrings
import Derived.Deep.QuietTactic
import Derived.BigQuiet
import Derived.IntWalk
import Derived.Test.YtjndfmpicnkplaaGreatDoorWWords
import Derived.Test.YtjndfmpicnkplaaGreatDoorWLast
namespace Go.Proofs.YtjndfmpicnkplaaGreatDoor.fieldw
open Go.RowKit Go.Proofs.YtjndfmpicnkplaaGreatDoor.fieldp

theorem size_list (s : ByteArray) : s.data.toList.length = s.size := by simp
theorem take_snoc (s : ByteArray) (k : Nat) (h : k < s.size) : s.data.toList.take (k + 1) = s.data.toList.take k ++ [s[k]] := by
  rw [List.take_succ_eq_append_getElem (by simpa using h)]; rfl
theorem drop_cons (s : ByteArray) (k : Nat) (h : k < s.size) : s.data.toList.drop k = s[k] :: s.data.toList.drop (k + 1) := by
  rw [List.drop_eq_getElem_cons (by simpa using h)]; rfl
theorem split_at (s : ByteArray) (k : Nat) : s.data.toList = s.data.toList.take k ++ s.data.toList.drop k := (List.take_append_drop k _).symm

theorem index_none (s : ByteArray) (c : UInt8) (w : World) (h : Lib.indexByte s.data.toList c = -1) :
    Calls Tryz.prog 65 #[.string s, .int .u8 (c.toNat : Int)] w fun e w' => e = .returned (.int .i64 (-1)) ∧ w = w' := by
  refine (Tryz.strings_IndexByte s c.toNat w).mono ?_
  rintro e w' ⟨rfl, rfl⟩
  refine ⟨?_, rfl⟩
  rw [show ((c.toNat : Int)).toNat.toUInt8 = c by simp, h]
theorem index_some (s : ByteArray) (c : UInt8) (n : Nat) (w : World) (h : Lib.indexByte s.data.toList c = (n : Int)) :
    Calls Tryz.prog 65 #[.string s, .int .u8 (c.toNat : Int)] w fun e w' => e = .returned (.int .i64 (n : Int)) ∧ w = w' := by
  refine (Tryz.strings_IndexByte s c.toNat w).mono ?_
  rintro e w' ⟨rfl, rfl⟩
  refine ⟨?_, rfl⟩
  rw [show ((c.toNat : Int)).toNat.toUInt8 = c by simp, h]
def ret2 (l : Option (List UInt8)) (w : World) (e : Ending) (w' : World) : Prop := e = .returned (.tuple #[.string ⟨(l.getD []).toArray⟩, .bool l.isSome]) ∧ Below w.heap.size w w'

end Go.Proofs.YtjndfmpicnkplaaGreatDoor.fieldw
namespace Go.Proofs.YtjndfmpicnkplaaGreatDoor.fieldw
open Go.RowKit Go.Proofs.YtjndfmpicnkplaaGreatDoor.fieldp

end Go.Proofs.YtjndfmpicnkplaaGreatDoor.fieldw
namespace Go.Proofs.YtjndfmpicnkplaaGreatDoor.fieldw
open Go.RowKit Go.Proofs.YtjndfmpicnkplaaGreatDoor.fieldp

theorem bcell {W w1 : World} (hb : Below W.heap.size W w1) : (∀ b o, b < W.heap.size → w1.cell? ⟨b, o, none⟩ = W.cell? ⟨b, o, none⟩) ∧ (∀ b o, b < W.heap.size → w1.frozen? ⟨b, o, none⟩ = W.frozen? ⟨b, o, none⟩) :=
  ⟨fun b o h => hb.cell (p := ⟨b, o, none⟩) h, fun b o h => hb.frozen (p := ⟨b, o, none⟩) h⟩

def mayB (k n c : Int) : Bool := decide (1 ≤ k ∧ k ≤ 5 ∧ 1 ≤ n ∧ n ≤ 64 ∧ 1 ≤ c ∧ c ≤ 3)

theorem within_any (n m : Int) (w : World) : Calls Tryz.prog 64 #[.int .i64 n, .int .i64 m] w fun e w' => e = .returned (.bool (decide (0 < n ∧ n ≤ m))) ∧ w = w' := by
  by_cases h1 : 0 < n <;> by_cases h2 : n ≤ m
  all_goals
    go_enter Tryz.func64, Tryz.ntmps64
    go_wp2
    go_ret
    exact ⟨by simp [h1, h2], rfl⟩

set_option maxHeartbeats 2000000 in
set_option maxRecDepth 100000 in
theorem may_any (k n c : Int) (w : World) : Calls Tryz.prog 42 #[.agg #[.int .i64 k, .int .i64 n, .int .i64 c]] w fun e w' => e = .returned (.bool (mayB k n c)) ∧ Below w.heap.size w w' := by
  have e : mayB k n c = (decide (0 < k ∧ k ≤ 5) && (decide (0 < n ∧ n ≤ 64) && decide (0 < c ∧ c ≤ 3))) := by
    unfold mayB
    rw [Bool.eq_iff_iff]
    simp only [Bool.and_eq_true, decide_eq_true_eq]
    omega
  have HE := Lib.hid e
  clear e
  have H1 := Lib.hid (within_any k 5)
  have H2 := Lib.hid (within_any n 64)
  have H3 := Lib.hid (within_any c 3)
  generalize decide (0 < k ∧ k ≤ 5) = b1 at HE H1
  generalize decide (0 < n ∧ n ≤ 64) = b2 at HE H2
  generalize decide (0 < c ∧ c ≤ 3) = b3 at HE H3
  cases b1
  case false =>
    go_enter Tryz.func42, Tryz.ntmps42
    go_wp2_with fail
    refine (H1.out _).mono ?_
    rintro e w1 ⟨rfl, rfl⟩
    go_wp2_with fail
    go_ret
    exact ⟨by rw [HE.out]; rfl, (Below.refl _ _).alloc (Nat.le_refl _) _⟩
  case true =>
    cases b2
    case false =>
      go_enter Tryz.func42, Tryz.ntmps42
      go_wp2_with fail
      refine (H1.out _).mono ?_
      rintro e w1 ⟨rfl, rfl⟩
      go_wp2_with fail
      refine (H2.out _).mono ?_
      rintro e w1 ⟨rfl, rfl⟩
      go_wp2_with fail
      go_ret
      exact ⟨by rw [HE.out]; rfl, (Below.refl _ _).alloc (Nat.le_refl _) _⟩
    case true =>
      cases b3
      all_goals
        go_enter Tryz.func42, Tryz.ntmps42
        go_wp2_with fail
        refine (H1.out _).mono ?_
        rintro e w1 ⟨rfl, rfl⟩
        go_wp2_with fail
        refine (H2.out _).mono ?_
        rintro e w1 ⟨rfl, rfl⟩
        go_wp2_with fail
        refine (H3.out _).mono ?_
        rintro e w1 ⟨rfl, rfl⟩
        go_wp2_with fail
        go_ret
        exact ⟨by rw [HE.out]; rfl, (Below.refl _ _).alloc (Nat.le_refl _) _⟩

/-- A code: sign by sign from one row to another one, or two digits a byte, of those of a row. -/
inductive CK where
  | plain (f t : ByteArray)
  | packed (d : ByteArray)
def signsB : ByteArray := ⟨#[65, 66, 67, 68, 69, 70, 71, 72, 73, 74, 75, 76, 77, 78, 79, 80, 81, 82, 83, 84, 85, 86, 87, 88, 89, 90, 48, 49, 50, 51, 52, 53, 54, 55, 56, 57, 32]⟩
def ebcB : ByteArray := ⟨#[193, 194, 195, 196, 197, 198, 199, 200, 201, 209, 210, 211, 212, 213, 214, 215, 216, 217, 226, 227, 228, 229, 230, 231, 232, 233, 240, 241, 242, 243, 244, 245, 246, 247, 248, 249, 64]⟩
def tenB : ByteArray := ⟨#[48, 49, 50, 51, 52, 53, 54, 55, 56, 57]⟩
def eb10 : ByteArray := ⟨#[240, 241, 242, 243, 244, 245, 246, 247, 248, 249]⟩
def lowB : ByteArray := ⟨#[48, 49, 50, 51, 52, 53, 54, 55, 56, 57, 97, 98, 99, 100, 101, 102]⟩
def highB : ByteArray := ⟨#[48, 49, 50, 51, 52, 53, 54, 55, 56, 57, 65, 66, 67, 68, 69, 70]⟩
def lettersC (c : Int) : CK := if c = 1 then .plain signsB signsB else if c = 2 then .plain signsB signsB else .plain signsB ebcB
def digitsC (c : Int) : CK := if c = 1 then .plain tenB tenB else if c = 2 then .packed tenB else .plain tenB eb10
def rawC (c : Int) : CK := if c = 1 then .plain lowB highB else .packed lowB

/-- What a code puts. -/
def CK.put : CK → List UInt8 → List UInt8
  | .plain f t, l => (turnL f.data.toList t.data.toList l).getD []
  | .packed _, l => packL l
end Go.Proofs.YtjndfmpicnkplaaGreatDoor.fieldw
namespace Go.Proofs.YtjndfmpicnkplaaGreatDoor.fieldw
open Go.RowKit Go.Proofs.YtjndfmpicnkplaaGreatDoor.fieldp

set_option maxHeartbeats 1000000 in
theorem of_any (s row : ByteArray) (n : Int) (w : World) (hs : s.size ≤ 200000000) :
    Calls Tryz.prog 44 #[.string s, .string row, .int .i64 n] w fun e w' => e = .returned (.bool (ofB s.data.toList row.data.toList n)) ∧ w = w' := by
  go_enter Tryz.func44, Tryz.ntmps44
  go_wp2_with fail
  go_loop [10] (fun i => ∃ (k : Nat), k ≤ s.size ∧ i = .int .i64 k ∧ (s.data.toList.take k).all (inRow row.data.toList) = true) (fun i => s.size - (intOf i).toNat)
  case atStart => exact ⟨0, Nat.zero_le _, rfl, rfl⟩
  case round =>
    obtain ⟨k, hk, rfl, hall⟩ := hrel
    have HA := Lib.hid hall
    clear hall
    by_cases hlt : k < s.size
    · by_cases hidx : Lib.indexByte row.data.toList s[k] = -1
      · have HI := Lib.hid (index_none row s[k] w hidx)
        have hfin : ofB s.data.toList row.data.toList n = false := by
          unfold ofB
          rw [split_at s k, drop_cons s k hlt]
          simp [inRow, hidx]
        have HF := Lib.hid hfin
        clear hidx hfin
        go_wp2_with (go_at_call 65; refine (HI.out).mono ?_; rintro e w1 ⟨rfl, rfl⟩)
        go_ret
        exact ⟨by rw [HF.out]; rfl, rfl⟩
      · obtain ⟨m, hm⟩ : ∃ m : Nat, Lib.indexByte row.data.toList s[k] = (m : Int) := by
          have := Lib.indexByte_ge row.data.toList s[k]
          exact ⟨(Lib.indexByte row.data.toList s[k]).toNat, by omega⟩
        have hn : (s.data.toList.take (k + 1)).all (inRow row.data.toList) = true := by
          rw [take_snoc s k hlt, all_snoc, HA.out]
          simp [inRow, hidx]
        have HN := Lib.hid hn
        have HI := Lib.hid (index_some row s[k] m w hm)
        clear hidx hm hn
        go_wp2_with (go_at_call 65; refine (HI.out).mono ?_; rintro e w1 ⟨rfl, rfl⟩)
        go_round
        case rel => exact ⟨k + 1, by omega, by go_num, HN.out⟩
        case measure => simp [intOf]; omega
    · have hke : s.data.toList.take k = s.data.toList := List.take_of_length_le (by rw [size_list]; omega)
      have hfin : ofB s.data.toList row.data.toList n = ((s.size : Int) == n) := by
        have := HA.out
        rw [hke] at this
        unfold ofB
        rw [this, size_list]
        by_cases e : (s.size : Int) = n <;> simp [e]
      have HF := Lib.hid hfin
      clear hke hfin
      go_wp2
      go_ret
      exact ⟨by rw [HF.out]; rfl, rfl⟩

/-- What a packed row says: as many digits, a nought ahead of an odd number. -/
def takePacked (d : List UInt8) (l : List UInt8) (n : Nat) : Option (List UInt8) :=
  if n % 2 = 1 then (if (unpackL l).head? = some 48 then (if ofB (unpackL l).tail d n then some (unpackL l).tail else none) else none)
  else if ofB (unpackL l) d n then some (unpackL l) else none
def ret2b (l : Option (List UInt8)) (w : World) (e : Ending) (w' : World) : Prop := ∃ x, e = .returned (.tuple #[.string ⟨x.toArray⟩, .bool l.isSome]) ∧ (∀ y, l = some y → x = y) ∧ Below w.heap.size w w'

end Go.Proofs.YtjndfmpicnkplaaGreatDoor.fieldw
namespace Go.Proofs.YtjndfmpicnkplaaGreatDoor.fieldw
open Go.RowKit Go.Proofs.YtjndfmpicnkplaaGreatDoor.fieldp

theorem byte_ne {u : UInt8} {v : Nat} (hv : v < 256) (h : u ≠ v.toUInt8) : ((u.toNat : Int) != (v : Int)) = true := by
  rw [bne_iff_ne]
  intro e
  apply h
  apply UInt8.toNat_inj.1
  simp only [Nat.toUInt8, UInt8.toNat_ofNat']
  omega
theorem size_cons {s : ByteArray} {d : UInt8} {r : List UInt8} (h : s.data.toList = d :: r) : s.size = r.length + 1 := by
  rw [← size_list, h]; rfl
theorem tail_data (s : ByteArray) (d : UInt8) (r : List UInt8) (h : s.data.toList = d :: r) : (s.extract 1 s.size).data.toList = r := by
  have hz := size_cons h
  simp [ByteArray.data_extract, h, hz]
theorem head_eq {s : ByteArray} {d : UInt8} {r : List UInt8} (h : s.data.toList = d :: r) (h0 : 0 < s.size) : s[0] = d := by
  have : s.data.toList[0]? = some d := by rw [h]; rfl
  rw [List.getElem?_eq_getElem (by simpa using h0)] at this
  exact Option.some.inj this

set_option maxHeartbeats 2000000 in
theorem right_x (n c : Int) (s : ByteArray) (w : World) (hs : s.size ≤ 100000000) :
    Calls Tryz.prog 43 #[.agg #[.int .i64 5, .int .i64 n, .int .i64 c], .string s] w fun e w' => e = .returned (.bool (rightB 5 n s.data.toList)) ∧ Below w.heap.size w w' := by
  cases hl : s.data.toList with
  | nil =>
    have he : s.toList.isEmpty = true := by rw [ByteArray.toList_eq, hl]; rfl
    have he2 : s.toList = [] := by rw [ByteArray.toList_eq, hl]
    clear hl
    go_enter Tryz.func43, Tryz.ntmps43
    go_wp2_with fail
    go_ret
    exact ⟨rfl, (Below.refl _ _).alloc (Nat.le_refl _) _⟩
  | cons d r =>
    have he : s.toList.isEmpty = false := by rw [ByteArray.toList_eq, hl]; rfl
    have he2 : (s.toList = []) = False := by rw [ByteArray.toList_eq, hl]; simp
    have hz := size_cons hl
    have h0 : 0 < s.size := by omega
    have hd := head_eq hl h0
    have hof : ∀ w, Calls Tryz.prog 44 #[.string (s.extract 1 s.size), .string ⟨#[48, 49, 50, 51, 52, 53, 54, 55, 56, 57]⟩, .int .i64 n] w fun e w' => e = .returned (.bool (ofB r tenL n)) ∧ w = w' := by
      intro w
      have := of_any (s.extract 1 s.size) ⟨#[48, 49, 50, 51, 52, 53, 54, 55, 56, 57]⟩ n w (by rw [← size_list, tail_data s d r hl]; omega)
      rw [tail_data s d r hl] at this
      exact this
    have HO := Lib.hid hof
    clear hof hl hz
    by_cases d1 : d = 67
    · subst d1
      have t1 : ((s[0].toNat : Int) != 67) = false := by rw [hd]; rfl
      have HD := Lib.hid hd
      clear hd
      go_enter Tryz.func43, Tryz.ntmps43
      go_wp2_with fail
      refine (HO.out _).mono ?_
      rintro e w1 ⟨rfl, rfl⟩
      go_wp2_with fail
      go_ret
      exact ⟨rfl, (Below.refl _ _).alloc (Nat.le_refl _) _⟩
    · by_cases d2 : d = 68
      · subst d2
        have t1 : ((s[0].toNat : Int) != 67) = true := by rw [hd]; rfl
        have t2 : ((s[0].toNat : Int) != 68) = false := by rw [hd]; rfl
        have HD := Lib.hid hd
        clear hd
        go_enter Tryz.func43, Tryz.ntmps43
        go_wp2_with fail
        refine (HO.out _).mono ?_
        rintro e w1 ⟨rfl, rfl⟩
        go_wp2_with fail
        go_ret
        exact ⟨rfl, (Below.refl _ _).alloc (Nat.le_refl _) _⟩
      · have t1 : ((s[0].toNat : Int) != 67) = true := by rw [hd]; exact byte_ne (v := 67) (by omega) d1
        have t2 : ((s[0].toNat : Int) != 68) = true := by rw [hd]; exact byte_ne (v := 68) (by omega) d2
        have hfin : rightB 5 n (d :: r) = false := by simp [rightB, d1, d2]
        have HF := Lib.hid hfin
        have HD := Lib.hid hd
        clear hd d1 d2 hfin
        go_enter Tryz.func43, Tryz.ntmps43
        go_wp2_with fail
        go_ret
        exact ⟨by rw [HF.out]; rfl, (Below.refl _ _).alloc (Nat.le_refl _) _⟩

set_option maxHeartbeats 2000000 in
theorem right_any (k n c : Int) (s : ByteArray) (w : World) (hs : s.size ≤ 100000000) (h0 : 1 ≤ n) (h1 : n ≤ 64) :
    Calls Tryz.prog 43 #[.agg #[.int .i64 k, .int .i64 n, .int .i64 c], .string s] w fun e w' => e = .returned (.bool (rightB k n s.data.toList)) ∧ Below w.heap.size w w' := by
  by_cases k5 : k = 5
  · subst k5; exact right_x n c s w hs
  have HO := Lib.hid (fun (row : ByteArray) (m : Int) (w : World) => of_any s row m w (by omega))
  have e5 : (k == 5) = false := beq_eq_false_iff_ne.mpr k5
  by_cases k1 : k = 1
  · subst k1
    have hfin : rightB 1 n s.data.toList = ofB s.data.toList tenL n := rfl
    have HF := Lib.hid hfin
    clear hfin k5
    go_enter Tryz.func43, Tryz.ntmps43
    go_wp2_with fail
    refine (HO.out _ _ _).mono ?_
    rintro e w1 ⟨rfl, rfl⟩
    go_wp2_with fail
    go_ret
    exact ⟨by rw [HF.out]; rfl, (Below.refl _ _).alloc (Nat.le_refl _) _⟩
  have e1 : (k == 1) = false := beq_eq_false_iff_ne.mpr k1
  by_cases k2 : k = 2
  · subst k2
    have hfin : rightB 2 n s.data.toList = (decide (0 < s.size ∧ (s.size : Int) ≤ n) && ofB s.data.toList tenL s.size) := by
      simp only [rightB, size_list]; rfl
    have HF := Lib.hid hfin
    clear hfin k5 k1
    by_cases z0 : 0 < s.size
    · by_cases z1 : (s.size : Int) ≤ n
      · go_enter Tryz.func43, Tryz.ntmps43
        go_wp2_with fail
        refine (HO.out _ _ _).mono ?_
        rintro e w1 ⟨rfl, rfl⟩
        go_wp2_with fail
        go_ret
        exact ⟨by rw [HF.out]; simp [z0, z1]; rfl, (Below.refl _ _).alloc (Nat.le_refl _) _⟩
      · go_enter Tryz.func43, Tryz.ntmps43
        go_wp2_with fail
        go_ret
        exact ⟨by rw [HF.out, decide_eq_false (show ¬ (0 < s.size ∧ (s.size : Int) ≤ n) by omega)]; rfl, (Below.refl _ _).alloc (Nat.le_refl _) _⟩
    · go_enter Tryz.func43, Tryz.ntmps43
      go_wp2_with fail
      go_ret
      exact ⟨by rw [HF.out, decide_eq_false (show ¬ (0 < s.size ∧ (s.size : Int) ≤ n) by omega)]; rfl, (Below.refl _ _).alloc (Nat.le_refl _) _⟩
  have e2 : (k == 2) = false := beq_eq_false_iff_ne.mpr k2
  by_cases k3 : k = 3
  · subst k3
    have hfin : rightB 3 n s.data.toList = ofB s.data.toList signsL n := rfl
    have HF := Lib.hid hfin
    clear hfin k5 k1 k2
    go_enter Tryz.func43, Tryz.ntmps43
    go_wp2_with fail
    refine (HO.out _ _ _).mono ?_
    rintro e w1 ⟨rfl, rfl⟩
    go_wp2_with fail
    go_ret
    exact ⟨by rw [HF.out]; rfl, (Below.refl _ _).alloc (Nat.le_refl _) _⟩
  have e3 : (k == 3) = false := beq_eq_false_iff_ne.mpr k3
  have hfin : rightB k n s.data.toList = ofB s.data.toList hexL (2 * n) := by simp [rightB, k1, k2, k3, k5]
  have HF := Lib.hid hfin
  clear hfin k5 k1 k2 k3
  go_enter Tryz.func43, Tryz.ntmps43
  go_wp2_with fail
  refine (HO.out _ _ _).mono ?_
  rintro e w1 ⟨rfl, rfl⟩
  go_wp2_with fail
  go_ret
  exact ⟨by rw [HF.out]; rfl, (Below.refl _ _).alloc (Nat.le_refl _) _⟩

def checkR (k n c : Int) (l : List UInt8) : Int := if mayB k n c = true then (if rightB k n l = true then 0 else 41) else 40
set_option maxHeartbeats 2000000 in
theorem check_any (k n c : Int) (s : ByteArray) (w : World) (hs : s.size ≤ 100000000) :
    Calls Tryz.prog 23 #[.agg #[.int .i64 k, .int .i64 n, .int .i64 c], .string s] w fun e w' => e = .returned (.int .i64 (checkR k n c s.data.toList)) ∧ Below w.heap.size w w' := by
  have HM := Lib.hid (may_any k n c)
  cases hm : mayB k n c with
  | false =>
    have hfin : checkR k n c s.data.toList = 40 := by simp [checkR, hm]
    have HF := Lib.hid hfin
    rw [hm] at HM
    clear hfin hm
    go_enter Tryz.func23, Tryz.ntmps23
    go_wp2_with fail
    refine (HM.out _).mono ?_
    rintro e w1 ⟨rfl, hb1⟩
    have HB := Lib.hid (((Below.refl w.heap.size w).alloc (Nat.le_refl _) _).trans (hb1.mono (by simp)))
    clear hb1
    go_wp2_with fail
    go_ret
    exact ⟨by rw [HF.out]; rfl, HB.out⟩
  | true =>
    have hn : 1 ≤ n ∧ n ≤ 64 := by simp [mayB] at hm; omega
    have HR := Lib.hid (fun w => right_any k n c s w hs hn.1 hn.2)
    have hfin : checkR k n c s.data.toList = if rightB k n s.data.toList = true then 0 else 41 := by simp [checkR, hm]
    have HF := Lib.hid hfin
    rw [hm] at HM
    generalize rightB k n s.data.toList = b at HR HF
    clear hfin hm hn
    cases b
    all_goals
      go_enter Tryz.func23, Tryz.ntmps23
      go_wp2_with fail
      refine (HM.out _).mono ?_
      rintro e w1 ⟨rfl, hb1⟩
      obtain ⟨hc1, hf1⟩ := bcell hb1
      have HB := Lib.hid (((Below.refl w.heap.size w).alloc (Nat.le_refl _) _).trans (hb1.mono (by simp)))
      clear hb1
      go_wp2_with fail
      refine (HR.out _).mono ?_
      rintro e w2 ⟨rfl, hb2⟩
      have HB2 := Lib.hid (HB.out.trans (hb2.mono HB.out.size))
      clear hb2
      go_wp2_with fail
      go_ret
      exact ⟨by rw [HF.out]; rfl, HB2.out⟩
end Go.Proofs.YtjndfmpicnkplaaGreatDoor.fieldw
namespace Go.Proofs.YtjndfmpicnkplaaGreatDoor.fieldw
open Go.RowKit Go.Proofs.YtjndfmpicnkplaaGreatDoor.fieldp
theorem ofB_all {l row : List UInt8} {n : Int} (h : ofB l row n = true) : l.all (inRow row) = true ∧ (l.length : Int) = n := by
  unfold ofB at h
  simpa using h
end Go.Proofs.YtjndfmpicnkplaaGreatDoor.fieldw
namespace Go.Proofs.YtjndfmpicnkplaaGreatDoor.fieldw
open Go.RowKit Go.Proofs.YtjndfmpicnkplaaGreatDoor.fieldp Go.Proofs.YtjndfmpicnkplaaGreatDoorW.PrintWords Go.Proofs.YtjndfmpicnkplaaGreatDoorW.PrintLast

/-- A row of bytes that nothing else holds. -/
def BytesAt (w : World) (b : Nat) (l : List UInt8) : Prop :=
  ∃ C fr, w.heap[b]? = some (.cells C 5 fr) ∧ l.length ≤ fr.1 ∧ ∀ j (h : j < l.length), C[j]? = some (.int .u8 (l[j].toNat : Int))
theorem BytesAt.cell {w : World} {b : Nat} {l : List UInt8} (h : BytesAt w b l) (j : Nat) (hj : j < l.length) : w.cell? ⟨b, j, none⟩ = some (.int .u8 (l[j].toNat : Int)) := by
  obtain ⟨C, fr, h1, _, h2⟩ := h
  unfold World.cell?
  rw [h1]
  simpa using h2 j hj
theorem BytesAt.frozen {w : World} {b : Nat} {l : List UInt8} (h : BytesAt w b l) (j : Nat) (hj : j < l.length) : w.frozen? ⟨b, j, none⟩ = false := by
  obtain ⟨C, fr, h1, h3, h2⟩ := h
  unfold World.frozen?
  rw [h1]
  obtain ⟨lo, hi⟩ := fr
  simp only at h3 ⊢
  rw [decide_eq_false (show ¬ lo ≤ j by omega)]
  rfl
theorem BytesAt.set {w : World} {b : Nat} {l : List UInt8} (h : BytesAt w b l) (j : Nat) (x : UInt8) : BytesAt (w.setCell ⟨b, j, none⟩ (.int .u8 (x.toNat : Int))) b (l.set j x) := by
  obtain ⟨C, fr, h1, h3, h2⟩ := h
  refine ⟨C.setIfInBounds j (.int .u8 (x.toNat : Int)), fr, ?_, by simpa using h3, ?_⟩
  · unfold World.setCell
    simp [h1, Array.getElem?_modify]
  · intro k hk
    have hk' : k < l.length := by simpa using hk
    have := h2 k hk'
    rw [Array.getElem?_setIfInBounds, List.getElem_set]
    by_cases e : j = k
    · subst e
      have := (Array.getElem?_eq_some_iff.1 this).1
      simp [this]
    · simp [e, this]
theorem BytesAt.drew {w : World} {b : Nat} {l : List UInt8} (h : BytesAt w b l) : BytesAt w.drew b l := h
theorem BytesAt.fresh (w : World) (s : ByteArray) (cap : Nat) : BytesAt (w.alloc (.cells (bytesRow s cap) 5 ((bytesRow s cap).size, (bytesRow s cap).size + 1))) w.heap.size s.data.toList := by
  refine ⟨bytesRow s cap, ((bytesRow s cap).size, (bytesRow s cap).size + 1), by show (w.heap.push _)[w.heap.size]? = _; simp, ?_, ?_⟩
  · simp [bytesRow]
  · intro j hj
    rw [bytesRow_at s cap j (by simpa using hj)]
    rfl
theorem BytesAt.back {w : World} {b cap : Nat} {l : List UInt8} (h : BytesAt w b l) :
    (convert 70 9 (.slice (some ⟨b, 0, none⟩) l.length cap)).run Tryz.prog w = .ok (.string ⟨l.toArray⟩) w := by
  refine run_convert_bytes_back w _ _ 5 ⟨b, 0, none⟩ cap l Tryz.underlying70 Tryz.underlying5 Tryz.underlying9 ?_
  intro j hj
  have := h.cell j hj
  rw [← this, show (⟨b, 0, none⟩ : Addr).add j = ⟨b, j, none⟩ from by unfold Addr.add; split <;> simp_all]
theorem ten_at (k : Nat) (h : k < 10) : ∀ hk : k < (⟨#[48, 49, 50, 51, 52, 53, 54, 55, 56, 57]⟩ : ByteArray).size, ((⟨#[48, 49, 50, 51, 52, 53, 54, 55, 56, 57]⟩ : ByteArray)[k]'hk) = (48 + k).toUInt8 := by
  have : ∀ k : Fin 10, ∀ hk : k.1 < (⟨#[48, 49, 50, 51, 52, 53, 54, 55, 56, 57]⟩ : ByteArray).size, ((⟨#[48, 49, 50, 51, 52, 53, 54, 55, 56, 57]⟩ : ByteArray)[k.1]'hk) = (48 + k.1).toUInt8 := by decide
  exact this ⟨k, h⟩

theorem int_step (n : Int) (j : Nat) (x : Int) (h : x = n / 10 ^ j) (hx : 0 < x) (hr : -9223372036854775808 ≤ n ∧ n ≤ 9223372036854775807) : wrap64 (x.tdiv 10) = n / 10 ^ (j + 1) := by
  have h1 : n / 10 ^ (j + 1) = x / 10 := by rw [h, Int.pow_succ]; exact (Int.ediv_ediv_of_nonneg (Int.le_of_lt (Int.pow_pos (by decide)))).symm
  have h2 : x.tdiv 10 = x / 10 := Int.tdiv_eq_ediv_of_nonneg (by omega)
  have h3 : x ≤ n := by
    rw [h]
    refine Int.ediv_le_self _ ?_
    have := hr.1
    by_cases h0 : n < 0
    · have : n / 10 ^ j < 0 := Int.ediv_neg_of_neg_of_pos h0 (Int.pow_pos (by decide))
      omega
    · omega
  rw [h1, h2]
  exact IntWalk.wrap64_in _ ⟨by omega, by omega⟩
theorem dig_of (n : Int) (j : Nat) (x : Int) (d : Nat) (h : x = n / 10 ^ j) (hx : 0 < x) (hm : x.tmod 10 = (d : Int)) : n.toNat / 10 ^ j % 10 = d := by
  have h0 : 0 ≤ n := by
    by_cases h0 : n < 0
    · have : n / 10 ^ j < 0 := Int.ediv_neg_of_neg_of_pos h0 (Int.pow_pos (by decide))
      omega
    · omega
  obtain ⟨m, rfl⟩ := Int.eq_ofNat_of_zero_le h0
  rw [Int.toNat_natCast]
  rw [Int.tmod_eq_emod_of_nonneg (by omega), h] at hm
  exact_mod_cast hm
theorem row_step (n : Int) (z j q d : Nat) (hj : j < z) (hq : q = z - 1 - j) (hd : n.toNat / 10 ^ j % 10 = d) :
    (List.replicate (z - j) 48 ++ digL n.toNat j).set q (48 + d).toUInt8 = List.replicate (z - (j + 1)) 48 ++ digL n.toNat (j + 1) := by
  rw [digL_front, hd, List.set_append_left _ _ (by simp; omega), show z - j = q + 1 by omega, show z - (j + 1) = q by omega, List.replicate_succ', List.set_append_right _ _ (by simp)]
  simp
theorem digits_zero (n : Int) (z j : Nat) (hj : j ≤ z) (h : 0 = n / 10 ^ j) (hn : n < 0 → j = 0) : ¬ (n < 0 ∨ (10 : Int) ^ z ≤ n) ∧ List.replicate (z - j) 48 ++ digL n.toNat j = digL n.toNat z := by
  have h0 : 0 ≤ n := by
    by_cases h0 : n < 0
    · have : n / 10 ^ j < 0 := Int.ediv_neg_of_neg_of_pos h0 (Int.pow_pos (by decide))
      omega
    · omega
  obtain ⟨m, rfl⟩ := Int.eq_ofNat_of_zero_le h0
  rw [Int.toNat_natCast]
  have h1 : m / 10 ^ j = 0 := by exact_mod_cast h.symm
  have h2 : m < 10 ^ j := (Nat.div_eq_zero_iff_lt (Nat.pow_pos (by decide))).1 h1
  have h3 : m < 10 ^ z := Nat.lt_of_lt_of_le h2 (Nat.pow_le_pow_right (by decide) hj)
  refine ⟨?_, ?_⟩
  · rintro (h | h)
    · omega
    · have : (10 ^ z : Nat) ≤ m := by exact_mod_cast h
      omega
  · have := digL_pad m j (z - j) h1
    rw [← this, show z - j + j = z by omega]
theorem digits_some (n x : Int) (z j : Nat) (hj : j ≤ z) (h : x = n / 10 ^ j) (hx : x ≠ 0) (hc : ¬ (j < z ∧ 0 < x)) : n < 0 ∨ (10 : Int) ^ z ≤ n := by
  by_cases h0 : n < 0
  · exact .inl h0
  · refine .inr ?_
    have h1 : 0 ≤ n / 10 ^ j := Int.ediv_nonneg (by omega) (Int.le_of_lt (Int.pow_pos (by decide)))
    have hjz : j = z := by
      by_cases e : j = z
      · exact e
      · exfalso; exact hc ⟨by omega, by omega⟩
    subst hjz
    have h2 : 1 ≤ n / 10 ^ j := by omega
    have := (Int.le_ediv_iff_mul_le (Int.pow_pos (by decide))).1 h2
    simpa using this

set_option maxHeartbeats 2000000 in
set_option maxRecDepth 100000 in
theorem digits_any (n size : Int) (w : World) (hr : -9223372036854775808 ≤ n ∧ n ≤ 9223372036854775807) :
    Calls Tryz.prog 15 #[.int .i64 n, .int .i64 size] w fun e w' => e = .returned (.tuple #[.string (digitsR n size).1, .int .i64 (digitsR n size).2]) ∧ Below w.heap.size w w' := by
  have HRn := Lib.hid hr
  clear hr
  by_cases h0 : size < 1
  · have e : digitsR n size = (⟨#[]⟩, 40) := by simp [digitsR, h0]
    rw [e]
    clear e
    go_enter Tryz.func15, Tryz.ntmps15
    go_wp2
    go_ret2
    exact ⟨rfl, Below.refl _ _⟩
  · by_cases h1 : size > 18
    · have e : digitsR n size = (⟨#[]⟩, 40) := by simp [digitsR, h1]
      rw [e]
      clear e
      go_enter Tryz.func15, Tryz.ntmps15
      go_wp2
      go_ret2
      exact ⟨rfl, Below.refl _ _⟩
    · obtain ⟨z, rfl⟩ : ∃ z : Nat, size = (z : Int) := ⟨size.toNat, by omega⟩
      have HF := Lib.hid (show digitsR n (z : Int) = if n < 0 ∨ (10 : Int) ^ z ≤ n then (⟨#[]⟩, 41) else (⟨(digL n.toNat z).toArray⟩, 0) by simp [digitsR, h0, h1])
      generalize digitsR n (z : Int) = R at HF ⊢
      have hz0 : 1 ≤ z := by omega
      have hz1 : z ≤ 18 := by omega
      have HR := Lib.hid (Tryz.strings_Repeat ⟨#[48]⟩ z w (by omega) (by show 1 * z ≤ _; omega))
      have hs1 : (Lib.repeatL [48] z) = List.replicate z 48 := by
        have := Lib.repeatL_replicate 48 1 z
        simpa using this
      rw [hs1] at HR
      clear hs1
      obtain ⟨S, hS⟩ : ∃ S : ByteArray, S = ⟨(List.replicate z 48).toArray⟩ := ⟨_, rfl⟩
      rw [← hS] at HR
      have hSz : S.size = z := by rw [hS]; simp [ByteArray.size]
      have hSl : S.data.toList = List.replicate z 48 := by rw [hS]
      have hcv := fun w1 => run_bytes_of_string (P := Tryz.prog) w1 9 70 5 S Tryz.underlying9 Tryz.underlying70 Tryz.underlying5
      rw [hSz] at hcv
      have HCV := Lib.hid hcv
      have HSL := Lib.hid hSl
      clear hcv hS hSz hSl
      go_enter Tryz.func15, Tryz.ntmps15
      go_wp2_with fail
      refine (HR.out).mono ?_
      rintro e w1 ⟨rfl, hb1⟩
      have hcv := HCV.out w1
      have hB0 := BytesAt.fresh w1 S (grownCap w1 z 0 5)
      rw [HSL.out] at hB0
      generalize bytesRow S (grownCap w1 z 0 5) = C at hcv hB0
      generalize grownCap w1 z 0 5 = cap at hcv
      have HB0 := Aside0.mk hB0
      have HB1 := Aside0.mk hb1
      have hz2 : w.heap.size ≤ w1.heap.size := hb1.size
      clear hb1 hB0
      have hi0 : IntKind.i64.wrap ((z : Int) - 1) = (z : Int) - 1 := IntWalk.i64_in _ (by omega)
      go_wp2_with fail
      clear hcv hi0
      go_loopw [0, 7] (fun x i wr => ∃ (j : Nat), j ≤ z ∧ x = .int .i64 (n / 10 ^ j) ∧ i = .int .i64 ((z : Int) - 1 - (j : Int)) ∧ (n < 0 → j = 0) ∧ BytesAt wr w1.heap.size (List.replicate (z - j) 48 ++ digL n.toNat j) ∧ Below w.heap.size w wr) (fun _ i _ => (intOf i + 1).toNat)
      case atStart => exact ⟨0, Nat.zero_le _, by simp, by simp, fun _ => rfl, by simpa [digL] using HB0.out.drew, (HB1.out.alloc hz2 _).drew⟩
      case round =>
        obtain ⟨j, hj, rfl, rfl, hneg, hb, hB⟩ := hrel
        have HBd := Aside0.mk hb
        have HB := Aside0.mk hB
        have HN := Lib.hid hneg
        clear hb hB hneg
        obtain ⟨x, hxe⟩ : ∃ x : Int, x = n / 10 ^ j := ⟨_, rfl⟩
        rw [← hxe]
        have HX := Lib.hid hxe
        clear hxe
        by_cases hc : j < z ∧ 0 < x
        · obtain ⟨hjz, hx⟩ := hc
          have hlen : (List.replicate (z - j) 48 ++ digL n.toNat j).length = z := by rw [List.length_append, List.length_replicate, digL_length]; omega
          obtain ⟨q, hq⟩ : ∃ q, q = z - 1 - j := ⟨_, rfl⟩
          obtain ⟨old, hcell⟩ : ∃ old : Int, wr.cell? ⟨w1.heap.size, q, none⟩ = some (.int .u8 old) := ⟨_, HBd.out.cell q (by omega)⟩
          have hfro := HBd.out.frozen q (by omega)
          have hi : (z : Int) - 1 - (j : Int) = (q : Int) := by omega
          rw [hi]
          have hiz : q < z := by omega
          clear hi
          have hxm : x.tmod 10 = ((x % 10).toNat : Int) := by rw [Int.tmod_eq_emod_of_nonneg (by omega)]; omega
          have hxl : (x % 10).toNat < 10 := by omega
          generalize (x % 10).toNat = d at hxm hxl
          clear hlen
          have hq0 : (0 : Int) ≤ (q : Int) := by omega
          have hd0 : (0 : Int) ≤ (d : Int) := by omega
          have hd1 : (d : Int) < 10 := by omega
          have HQ := Lib.hid hq
          clear hq
          go_wp2_with fail
          have hq := HQ.out
          have hxe := HX.out
          refine ⟨⟨j + 1, by omega, ?_, by rw [show (q : Int) - 1 = (z : Int) - 1 - ((j + 1 : Nat) : Int) by omega], ?_, ?_, HB.out.setCell hz2 _⟩, by simp [intOf]⟩
          · rw [int_step n j x hxe hx HRn.out]
          · intro h
            exfalso
            have : n / 10 ^ j < 0 := Int.ediv_neg_of_neg_of_pos h (Int.pow_pos (by decide))
            omega
          · have hb := HBd.out.set q (48 + d).toUInt8
            rw [← ten_at d hxl (by show d < 10; omega)] at hb
            rw [ten_at d hxl (by show d < 10; omega)] at hb
            rw [ten_at d hxl (by show d < 10; omega), ← row_step n z j q d hjz hq (dig_of n j x d hxe hx hxm)]
            exact hb
        · have hxe := HX.out
          have hx00 : x ≤ 0 ∨ j = z := by
            by_cases hjz : j < z
            · exact .inl (by have : ¬ 0 < x := fun h => hc ⟨hjz, h⟩; omega)
            · exact .inr (by omega)
          by_cases h0x : x = 0
          · subst h0x
            have hz := digits_zero n z j hj hxe HN.out
            have hbk := HBd.out.back (cap := cap)
            have hlen : (List.replicate (z - j) 48 ++ digL n.toNat j).length = z := by rw [List.length_append, List.length_replicate, digL_length]; omega
            rw [hlen, hz.2] at hbk
            have hR : R = (⟨(digL n.toNat z).toArray⟩, 0) := by rw [HF.out, if_neg hz.1]
            subst hR
            obtain ⟨D, hD⟩ : ∃ D : ByteArray, D = ⟨(digL n.toNat z).toArray⟩ := ⟨_, rfl⟩
            rw [← hD] at hbk
            have HD := Lib.hid hD
            clear hD
            clear hxe hc hlen hz hx00
            by_cases hjz : j < z
            · have hi0 : (0 : Int) ≤ (z : Int) - 1 - (j : Int) := by omega
              go_wp2_with fail
              go_ret2
              exact ⟨by rw [← HD.out]; rfl, HB.out⟩
            · have hi0 : (z : Int) - 1 - (j : Int) < 0 := by omega
              go_wp2_with fail
              go_ret2
              exact ⟨by rw [← HD.out]; rfl, HB.out⟩
          · have hs := digits_some n x z j hj hxe h0x hc
            have hR : R = (⟨#[]⟩, 41) := by rw [HF.out, if_pos hs]
            subst hR
            have hne : (x != 0) = true := by simpa using h0x
            clear hxe hc hs
            by_cases hjz : j < z
            · have hi0 : (0 : Int) ≤ (z : Int) - 1 - (j : Int) := by omega
              have hx1 : x < 0 := by omega
              clear hx00 h0x
              go_wp2_with fail
              go_ret2
              exact ⟨rfl, HB.out⟩
            · have hi0 : (z : Int) - 1 - (j : Int) < 0 := by omega
              clear hx00 h0x
              go_wp2_with fail
              go_ret2
              exact ⟨rfl, HB.out⟩
end Go.Proofs.YtjndfmpicnkplaaGreatDoor.fieldw
namespace Go.Proofs.YtjndfmpicnkplaaGreatDoor.fieldw
open Go.RowKit Go.Proofs.YtjndfmpicnkplaaGreatDoor.fieldp Go.Proofs.YtjndfmpicnkplaaGreatDoorW.PrintWords Go.Proofs.YtjndfmpicnkplaaGreatDoorW.PrintLast

theorem take_dig {s : ByteArray} (h : s.data.toList.all (inRow tenL) = true) (k : Nat) : ∀ c ∈ s.data.toList.take k, isDig c :=
  fun c hc => row_dig (List.all_eq_true.1 h c (List.mem_of_mem_take hc))
set_option maxHeartbeats 2000000 in
set_option maxRecDepth 100000 in
theorem amount_any (s : ByteArray) (w : World) (hs : s.size ≤ 100000000) :
    Calls Tryz.prog 24 #[.string s] w fun e w' => e = .returned (.tuple #[.int .i64 (amountR s.data.toList).1, .int .i64 (amountR s.data.toList).2]) ∧ w = w' := by
  have HO := Lib.hid (fun w => of_any s ⟨#[48, 49, 50, 51, 52, 53, 54, 55, 56, 57]⟩ s.size w (by omega))
  by_cases h0 : s.data.toList = []
  · have he : s.toList = [] := by rw [ByteArray.toList_eq, h0]
    have he1 : s.toList.isEmpty = true := by rw [he]; rfl
    have e : amountR s.data.toList = (0, 41) := by simp [amountR, h0]
    rw [e]
    clear e h0
    go_enter Tryz.func24, Tryz.ntmps24
    go_wp2_with fail
    go_ret2
    exact ⟨rfl, rfl⟩
  · have he : (s.toList = []) = False := by rw [ByteArray.toList_eq]; simpa using h0
    have he1 : s.toList.isEmpty = false := by
      rw [ByteArray.toList_eq]
      cases h : s.data.toList with
      | nil => exact absurd h h0
      | cons => rfl
    by_cases h1 : 18 < s.size
    · have e : amountR s.data.toList = (0, 41) := by
        unfold amountR
        rw [if_neg]
        rintro ⟨_, h, _⟩
        rw [size_list] at h
        omega
      rw [e]
      clear e h0
      go_enter Tryz.func24, Tryz.ntmps24
      go_wp2_with fail
      go_ret2
      exact ⟨rfl, rfl⟩
    · have hd18 : decide (18 < (s.size : Int)) = false := by simp; omega
      cases ho : ofB s.data.toList tenL s.size with
      | false =>
        have e : amountR s.data.toList = (0, 41) := by
          unfold amountR
          rw [if_neg]
          rintro ⟨_, _, h⟩
          rw [ofB, h] at ho
          simp at ho
        rw [e]
        have HO' := HO.out
        rw [show (⟨#[48, 49, 50, 51, 52, 53, 54, 55, 56, 57]⟩ : ByteArray).data.toList = tenL from rfl, ho] at HO'
        have HO2 := Lib.hid HO'
        clear e h0 ho HO'
        go_enter Tryz.func24, Tryz.ntmps24
        go_wp2_with fail
        refine (HO2.out _).mono ?_
        rintro e w1 ⟨rfl, rfl⟩
        go_wp2_with fail
        go_ret2
        exact ⟨rfl, rfl⟩
      | true =>
        obtain ⟨hall, -⟩ := ofB_all ho
        have e : amountR s.data.toList = (numL s.data.toList, 0) := by
          unfold amountR
          rw [if_pos ⟨h0, by rw [size_list]; omega, hall⟩]
        rw [e]
        have HALL := Lib.hid hall
        have HO' := HO.out
        rw [show (⟨#[48, 49, 50, 51, 52, 53, 54, 55, 56, 57]⟩ : ByteArray).data.toList = tenL from rfl, ho] at HO'
        have HO2 := Lib.hid HO'
        have hs18 : s.size ≤ 18 := by omega
        clear e h0 ho HO' hall
        go_enter Tryz.func24, Tryz.ntmps24
        go_wp2_with fail
        refine (HO2.out _).mono ?_
        rintro e w1 ⟨rfl, rfl⟩
        go_wp2_with fail
        go_loop [4, 22] (fun n i => ∃ k : Nat, k ≤ s.size ∧ i = .int .i64 k ∧ n = .int .i64 (numL (s.data.toList.take k))) (fun _ i => s.size - (intOf i).toNat)
        case atStart => exact ⟨0, Nat.zero_le _, rfl, rfl⟩
        case round =>
          obtain ⟨k, hk, rfl, rfl⟩ := hrel
          by_cases hlt : k < s.size
          · have hs1 : numL (s.data.toList.take (k + 1)) = 10 * numL (s.data.toList.take k) + ((s[k].toNat : Int) - 48) := by rw [take_snoc s k hlt, numL_snoc]
            have hdg : isDig s[k] := take_dig HALL.out (k + 1) _ (by rw [take_snoc s k hlt]; simp)
            have hr := numL_range k _ (by rw [List.length_take, size_list]; omega) (take_dig HALL.out k)
            have hp : (10 : Int) ^ k ≤ 10 ^ 17 := by
              have : (10 : Nat) ^ k ≤ 10 ^ 17 := Nat.pow_le_pow_right (by decide) (by omega)
              exact_mod_cast this
            generalize numL (s.data.toList.take k) = m at hs1 hr ⊢
            have hm0 : 0 ≤ m := hr.1
            have hm1 : m < 100000000000000000 := by have := hr.2; omega
            unfold isDig at hdg
            have hw1 : IntKind.i64.wrap (10 * m) = 10 * m := IntWalk.i64_in _ (by omega)
            have hw2 : IntKind.u8.wrap ((s[k].toNat : Int) - 48) = (s[k].toNat : Int) - 48 := IntWalk.u8_in _ (by omega)
            have hw3 : IntKind.i64.wrap ((s[k].toNat : Int) - 48) = (s[k].toNat : Int) - 48 := IntWalk.i64_in _ (by omega)
            have hw4 : IntKind.i64.wrap (10 * m + ((s[k].toNat : Int) - 48)) = 10 * m + ((s[k].toNat : Int) - 48) := IntWalk.i64_in _ (by omega)
            have HS1 := Lib.hid hs1
            have HM := Lib.hid hm1
            clear hs1 hr hp hm1
            go_wp2_with fail
            exact ⟨⟨k + 1, by omega, by go_num, by rw [HS1.out]⟩, by simp [intOf]; omega⟩
          · have hke : s.data.toList.take k = s.data.toList := List.take_of_length_le (by rw [size_list]; omega)
            rw [hke]
            clear hke
            go_wp2_with fail
            go_ret2
            exact ⟨rfl, rfl⟩
end Go.Proofs.YtjndfmpicnkplaaGreatDoor.fieldw
