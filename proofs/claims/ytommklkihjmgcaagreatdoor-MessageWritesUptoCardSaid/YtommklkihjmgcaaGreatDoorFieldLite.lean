/- Walks of layer 4: right, Check, Digits, Amount. Conditions: as each theorem says. -/
import Derived.Test.YtommklkihjmgcaaGreatDoorShelf
import Derived.Test.YtommklkihjmgcaaGreatDoorFieldPlain
import Derived.WalkKit
import Derived.LoopTactic
import Derived.Deep.LoopGhost
import Derived.WalkSpells
import Derived.WalkLawsBesides
import Derived.Lib.Hide
import Derived.Outline
import Derived.StillTailTactics
import Derived.Laws.BitsAllLaws
import Derived.Laws.BitsLemmas
import Derived.Laws.EntriesVeiled
import Derived.Laws.IdiomStrings
import Derived.Deep.QuietTactic
import Derived.BigQuiet
import Derived.IntWalk
import Derived.Test.YtommklkihjmgcaaGreatDoorWWords
import Derived.Test.YtommklkihjmgcaaGreatDoorWLast
namespace Go.Proofs.YtommklkihjmgcaaGreatDoor.fieldw
open Go.RowKit Go.Proofs.YtommklkihjmgcaaGreatDoor.fieldp

theorem size_list (s : ByteArray) : s.data.toList.length = s.size := by simp
theorem take_snoc (s : ByteArray) (k : Nat) (h : k < s.size) : s.data.toList.take (k + 1) = s.data.toList.take k ++ [s[k]] := by
  rw [List.take_succ_eq_append_getElem (by simpa using h)]; rfl
theorem drop_cons (s : ByteArray) (k : Nat) (h : k < s.size) : s.data.toList.drop k = s[k] :: s.data.toList.drop (k + 1) := by
  rw [List.drop_eq_getElem_cons (by simpa using h)]; rfl
theorem split_at (s : ByteArray) (k : Nat) : s.data.toList = s.data.toList.take k ++ s.data.toList.drop k := (List.take_append_drop k _).symm

theorem index_none (s : ByteArray) (c : UInt8) (w : World) (h : Lib.indexByte s.data.toList c = -1) :
    Calls Tryz.prog 118 #[.string s, .int .u8 (c.toNat : Int)] w fun e w' => e = .returned (.int .i64 (-1)) ∧ w = w' := by
  refine (Tryz.strings_IndexByte s c.toNat w).mono ?_
  rintro e w' ⟨rfl, rfl⟩
  refine ⟨?_, rfl⟩
  rw [show ((c.toNat : Int)).toNat.toUInt8 = c by simp, h]
theorem index_some (s : ByteArray) (c : UInt8) (n : Nat) (w : World) (h : Lib.indexByte s.data.toList c = (n : Int)) :
    Calls Tryz.prog 118 #[.string s, .int .u8 (c.toNat : Int)] w fun e w' => e = .returned (.int .i64 (n : Int)) ∧ w = w' := by
  refine (Tryz.strings_IndexByte s c.toNat w).mono ?_
  rintro e w' ⟨rfl, rfl⟩
  refine ⟨?_, rfl⟩
  rw [show ((c.toNat : Int)).toNat.toUInt8 = c by simp, h]
theorem byteCells_snoc (l : List UInt8) (c : UInt8) : Lib.byteCells (l ++ [c]) = Lib.byteCells l ++ [.int .u8 (c.toNat : Int)] := by simp [Lib.byteCells]

def ret2 (l : Option (List UInt8)) (w : World) (e : Ending) (w' : World) : Prop := e = .returned (.tuple #[.string ⟨(l.getD []).toArray⟩, .bool l.isSome]) ∧ Below w.heap.size w w'

set_option maxHeartbeats 1000000 in
theorem turned_any (s fr tt : ByteArray) (w : World) (hs : s.size ≤ 100000000) (hft : fr.size ≤ tt.size) :
    Calls Tryz.prog 121 #[.string s, .string fr, .string tt] w (ret2 (turnL fr.data.toList tt.data.toList s.data.toList) w) := by
  have HF := Lib.hid (Lib.fresh_isBuilder 134 5 w)
  go_enter Tryz.func121, Tryz.ntmps121
  go_wp2_with fail
  go_loopw [13] (fun i wr => ∃ (k : Nat) (l : List UInt8), k ≤ s.size ∧ i = .int .i64 k ∧ turnL fr.data.toList tt.data.toList (s.data.toList.take k) = some l ∧ Lib.IsBuilder 134 5 w.heap.size w.heap.size (Lib.byteCells l) wr ∧ Below w.heap.size w wr) (fun i _ => s.size - (intOf i).toNat)
  case atStart => exact ⟨0, [], Nat.zero_le _, rfl, rfl, HF.out, (Below.refl _ _).alloc (Nat.le_refl _) _⟩
  case round =>
    obtain ⟨k, l, hk, rfl, hl, hb, hB⟩ := hrel
    have HL := Lib.hid hl
    have HBd := Lib.hid hb
    have HB := Lib.hid hB
    clear hl hb hB
    by_cases hlt : k < s.size
    · have hsp := split_at s k
      rw [drop_cons s k hlt] at hsp
      by_cases hidx : Lib.indexByte fr.data.toList s[k] = -1
      · have HI := Lib.hid (index_none fr s[k] wr hidx)
        have hfin : turnL fr.data.toList tt.data.toList s.data.toList = none := by
          rw [hsp, show s.data.toList.take k ++ s[k] :: s.data.toList.drop (k + 1) = (s.data.toList.take k ++ [s[k]]) ++ s.data.toList.drop (k + 1) by simp]
          exact turnL_none_of_prefix _ _ _ _ (turnL_snoc_none _ _ _ _ hidx)
        have HFin := Lib.hid hfin
        clear hidx hfin hsp
        go_wp2_with (go_at_call 118; refine (HI.out).mono ?_; rintro e w' ⟨rfl, rfl⟩)
        go_ret2
        exact ⟨by rw [HFin.out]; rfl, HB.out⟩
      · obtain ⟨n, hn⟩ : ∃ n : Nat, Lib.indexByte fr.data.toList s[k] = (n : Int) := by
          have := Lib.indexByte_ge fr.data.toList s[k]
          exact ⟨(Lib.indexByte fr.data.toList s[k]).toNat, by omega⟩
        have hnl : n < tt.size := by
          have := (Lib.indexByte_some hn).1
          have h1 := (List.getElem?_eq_some_iff.1 this).1
          rw [size_list] at h1
          omega
        have hnx : turnL fr.data.toList tt.data.toList (s.data.toList.take (k + 1)) = some (l ++ [tt[n]]) := by
          rw [take_snoc s k hlt, turnL_snoc _ _ _ _ _ n HL.out hn]
          congr 3
          rw [List.getD_eq_getElem?_getD, List.getElem?_eq_getElem (by simpa using hnl)]
          rfl
        have hll := turnL_length _ _ _ _ HL.out
        rw [List.length_take, size_list] at hll
        have hlen : (Lib.byteCells l).length + 1 ≤ 140737488355328 := by simp [Lib.byteCells]; omega
        have HI := Lib.hid (index_some fr s[k] n wr hn)
        have HW := Lib.hid (Tryz.Builder_WriteByte w.heap.size w.heap.size (Lib.byteCells l) (tt[n].toNat : Int) wr HBd.out hlen HB.out.size)
        have HN := Lib.hid hnx
        clear hidx hn hsp hlen hll hnx
        go_wp2_with (first | (go_at_call 118; refine (HI.out).mono ?_; rintro e w' ⟨rfl, rfl⟩) | (go_at_call 137; refine (HW.out).mono ?_; rintro e w2 ⟨rfl, hb2, hB2⟩; have HB2 := Lib.hid hB2; have Hb2 := Lib.hid hb2; clear hB2 hb2))
        go_roundw
        case rel => exact ⟨k + 1, _, by omega, by go_num, HN.out, by rw [byteCells_snoc]; exact Or.inr Hb2.out, HB.out.trans HB2.out⟩
        case measure => simp [intOf]; omega
    · have hke : s.data.toList.take k = s.data.toList := List.take_of_length_le (by rw [size_list]; omega)
      have hfin : turnL fr.data.toList tt.data.toList s.data.toList = some l := by rw [← hke]; exact HL.out
      have HFin := Lib.hid hfin
      have HS := Lib.hid (Tryz.Builder_String_any w.heap.size w.heap.size l wr HBd.out HB.out.size)
      clear hke hfin
      go_wp2_with (go_at_call 81; refine (HS.out).mono ?_; rintro e w2 ⟨rfl, hB2⟩; have HB2 := Lib.hid hB2; clear hB2)
      go_ret2
      exact ⟨by rw [HFin.out]; rfl, HB.out.trans HB2.out⟩
end Go.Proofs.YtommklkihjmgcaaGreatDoor.fieldw
namespace Go.Proofs.YtommklkihjmgcaaGreatDoor.fieldw
open Go.RowKit Go.Proofs.YtommklkihjmgcaaGreatDoor.fieldp

set_option maxHeartbeats 1000000 in
theorem unpack_any (s : ByteArray) (w : World) (hs : s.size ≤ 100000000) :
    Calls Tryz.prog 127 #[.string s] w fun e w' => e = .returned (.string ⟨(unpackL s.data.toList).toArray⟩) ∧ Below w.heap.size w w' := by
  have HF := Lib.hid (Lib.fresh_isBuilder 134 5 w)
  go_enter Tryz.func127, Tryz.ntmps127
  go_wp2_with fail
  go_loopw [7] (fun i wr => ∃ (k : Nat), k ≤ s.size ∧ i = .int .i64 k ∧ Lib.IsBuilder 134 5 w.heap.size w.heap.size (Lib.byteCells (unpackL (s.data.toList.take k))) wr ∧ Below w.heap.size w wr) (fun i _ => s.size - (intOf i).toNat)
  case atStart => exact ⟨0, Nat.zero_le _, rfl, HF.out, (Below.refl _ _).alloc (Nat.le_refl _) _⟩
  case round =>
    obtain ⟨k, hk, rfl, hb, hB⟩ := hrel
    have HBd := Lib.hid hb
    have HB := Lib.hid hB
    clear hb hB
    by_cases hlt : k < s.size
    · have h256 := s[k].toNat_lt
      have hl1 : (Lib.byteCells (unpackL (s.data.toList.take k))).length + 2 ≤ 140737488355328 := by
        have : (Lib.byteCells (unpackL (s.data.toList.take k))).length = 2 * (s.data.toList.take k).length := by rw [← unpackL_length]; simp [Lib.byteCells]
        rw [this, List.length_take, size_list]; omega
      have hn : unpackL (s.data.toList.take (k + 1)) = unpackL (s.data.toList.take k) ++ [hexd (s[k].toNat / 16)] ++ [hexd (s[k].toNat % 16)] := by rw [take_snoc s k hlt, unpackL_snoc]
      have HN := Lib.hid hn
      clear hn
      go_wp2_with fail
      refine (Tryz.Builder_WriteByte w.heap.size w.heap.size _ _ wr HBd.out (by omega) HB.out.size).mono ?_
      rintro e w2 ⟨rfl, hb2, hB2⟩
      have HB2 := Lib.hid (HB.out.trans hB2)
      have Hb2 := Lib.hid hb2
      clear hB2 hb2
      go_wp2_with fail
      refine (Tryz.Builder_WriteByte w.heap.size w.heap.size _ _ w2 (Or.inr Hb2.out) (by simp only [List.length_append, List.length_cons, List.length_nil]; omega) HB2.out.size).mono ?_
      rintro e w3 ⟨rfl, hb3, hB3⟩
      have HB3 := Lib.hid (HB2.out.trans hB3)
      have Hb3 := Lib.hid hb3
      clear hB3 hb3
      go_wp2_with fail
      go_roundw
      case rel => exact ⟨k + 1, by omega, by go_num, by rw [HN.out, byteCells_snoc, byteCells_snoc, ← hexd_at _ (by show _ < 16; omega), ← hexd_at _ (by show _ < 16; omega)]; exact Or.inr Hb3.out, HB3.out⟩
      case measure => simp [intOf]; omega
    · have hke : s.data.toList.take k = s.data.toList := List.take_of_length_le (by rw [size_list]; omega)
      have hb := HBd.out
      rw [hke] at hb
      have HS := Lib.hid (Tryz.Builder_String_any w.heap.size w.heap.size _ wr hb HB.out.size)
      clear hke hb
      go_wp2_with (go_at_call 81; refine (HS.out).mono ?_; rintro e w2 ⟨rfl, hB2⟩; have HB2 := Lib.hid hB2; clear hB2)
      go_ret
      exact ⟨rfl, HB.out.trans HB2.out⟩

theorem hex_index (c : UInt8) (w : World) (h : isHex c) :
    Calls Tryz.prog 118 #[.string ⟨#[48, 49, 50, 51, 52, 53, 54, 55, 56, 57, 97, 98, 99, 100, 101, 102]⟩, .int .u8 (c.toNat : Int)] w fun e w' => e = .returned (.int .i64 (hv c : Int)) ∧ w' = w :=
  (index_some ⟨#[48, 49, 50, 51, 52, 53, 54, 55, 56, 57, 97, 98, 99, 100, 101, 102]⟩ c (hv c) w (hv_index h)).mono fun _ _ h => ⟨h.1, h.2.symm⟩

theorem ofInt_i64 (a : Nat) (ha : a < 9223372036854775808) : (BitVec.ofInt 64 (a : Int)).toNat = a := by
  rw [BitVec.ofInt_natCast, BitVec.toNat_ofNat]; exact Nat.mod_eq_of_lt (by omega)
theorem i64_or_nat (a b : Nat) (ha : a < 9223372036854775808) (hb : b < 9223372036854775808) : bits .or .i64 (a : Int) (b : Int) = ((a ||| b : Nat) : Int) := by
  have hx : a ||| b < 2 ^ 63 := Nat.or_lt_two_pow (by omega) (by omega)
  show IntKind.i64.wrap ((BitVec.ofInt 64 (a : Int) ||| BitVec.ofInt 64 (b : Int)).toNat : Int) = _
  rw [BitVec.toNat_or, ofInt_i64 a ha, ofInt_i64 b hb, IntKind.wrap_i64]
  omega
theorem two_digits (a b : Nat) (ha : a < 16) (hb : b < 16) : bits .or .i64 ((a : Int) * 16) (b : Int) % 256 = (((16 * a + b).toUInt8.toNat : Nat) : Int) := by
  have h : ∀ a : Fin 16, ∀ b : Fin 16, (a.val * 16 ||| b.val) = 16 * a.val + b.val := by decide
  rw [show (a : Int) * 16 = ((a * 16 : Nat) : Int) by omega, i64_or_nat _ _ (by omega) (by omega), h ⟨a, ha⟩ ⟨b, hb⟩]
  simp only [UInt8.toNat_ofNat', Nat.toUInt8]
  omega

theorem pack_case (s : ByteArray) : ∃ t : ByteArray, t.data.toList = evened s.data.toList ∧ ((((s.size : Int) % 2 : Int) == 1) = true ∧ ((⟨#[48]⟩ : ByteArray) ++ s) = t ∨ (((s.size : Int) % 2 : Int) == 1) = false ∧ t = s) := by
  by_cases h : s.size % 2 = 1
  · exact ⟨_, by simp [evened, h], .inl ⟨by rw [beq_iff_eq]; omega, rfl⟩⟩
  · exact ⟨s, by simp [evened, h], .inr ⟨by rw [beq_eq_false_iff_ne]; omega, rfl⟩⟩
theorem evened_hex {l : List UInt8} (h : ∀ c ∈ l, isHex c) : ∀ c ∈ evened l, isHex c := by
  unfold evened
  split
  · intro c hc
    rcases List.mem_cons.1 hc with rfl | hc
    · show Lib.indexByte hexL 48 ≠ -1
      decide
    · exact h c hc
  · exact h
theorem take_snoc2 (s : ByteArray) (k : Nat) (h : k + 1 < s.size) : s.data.toList.take (k + 2) = s.data.toList.take k ++ [s[k], s[k + 1]] := by
  rw [take_snoc s (k + 1) h, take_snoc s k (by omega)]; simp
theorem evened_size (l : List UInt8) : (evened l).length ≤ l.length + 1 := by
  unfold evened; split <;> simp

set_option maxHeartbeats 1000000 in
set_option maxRecDepth 100000 in
theorem pack_any (s : ByteArray) (w : World) (hs : s.size ≤ 100000000) (hx : ∀ c ∈ s.data.toList, isHex c) :
    Calls Tryz.prog 124 #[.string s] w fun e w' => e = .returned (.string ⟨(packL s.data.toList).toArray⟩) ∧ Below w.heap.size w w' := by
  have HF := Lib.hid (Lib.fresh_isBuilder 134 5 w)
  obtain ⟨t, ht, hcase⟩ := pack_case s
  have htx := evened_hex hx
  rw [← ht] at htx
  have hts : t.size ≤ 100000001 := by
    have := evened_size s.data.toList
    rw [← ht, size_list, size_list] at this
    omega
  have hte : t.size % 2 = 0 := by
    have := evened_even s.data.toList
    rw [← ht, size_list] at this
    exact this
  have hpk : packL s.data.toList = packE t.data.toList := by unfold packL; rw [ht]
  have HP := Lib.hid hpk
  have HX := Lib.hid htx
  clear ht htx hpk hx
  rcases hcase with ⟨h1, heq⟩ | ⟨h1, rfl⟩
  all_goals
    go_enter Tryz.func124, Tryz.ntmps124
    go_wp2_with fail
    try clear heq
    clear h1
    go_loopw [4] (fun i wr => ∃ (k : Nat), k ≤ t.size ∧ k % 2 = 0 ∧ i = .int .i64 k ∧ Lib.IsBuilder 134 5 w.heap.size w.heap.size (Lib.byteCells (packE (t.data.toList.take k))) wr ∧ Below w.heap.size w wr) (fun i _ => t.size - (intOf i).toNat)
    case atStart => exact ⟨0, Nat.zero_le _, rfl, rfl, HF.out, (Below.refl _ _).alloc (Nat.le_refl _) _⟩
    case round =>
      obtain ⟨k, hk, hk2, rfl, hb, hB⟩ := hrel
      have HBd := Lib.hid hb
      have HB := Lib.hid hB
      clear hb hB
      by_cases hlt : k < t.size
      · have hlt1 : k + 1 < t.size := by omega
        have x1 := HX.out t[k] (by simp [ByteArray.getElem_eq_getElem_data])
        have x2 := HX.out t[k + 1] (by simp [ByteArray.getElem_eq_getElem_data])
        have v1 := hv_lt x1
        have v2 := hv_lt x2
        have C1 := Lib.hid (fun w => hex_index t[k] w x1)
        have C2 := Lib.hid (fun w => hex_index t[k + 1] w x2)
        clear x1 x2
        go_wp2_with fail
        have w1 : IntKind.i64.wrap ((k : Int) + 1) = (k : Int) + 1 := IntWalk.i64_in _ (by omega)
        have w2 : (0 : Int) ≤ (k : Int) + 1 := by omega
        have w3 : ((k : Int) + 1).toNat = k + 1 := by omega
        have w4 : (k : Int) + 1 < (t.size : Int) := by omega
        have w5 : IntKind.i64.wrap ((hv t[k] : Int) * 16) = (hv t[k] : Int) * 16 := IntWalk.i64_in _ (by omega)
        refine wp_region_still_tail 12 (by kernel_rfl) (by kernel_rfl) ?_
        simp only [List.take_succ_cons, List.take_zero, List.drop_succ_cons, List.drop_zero]
        repeat still_step
        still_call (C1.out _)
        repeat still_step
        still_call (C2.out _)
        repeat still_step
        refine wpStill_nil ?_
        change wpList _ _ _ _ _ wr.drew
        go_wp2_with fail
        rw [two_digits _ _ v1 v2]
        have hlen : (Lib.byteCells (packE (t.data.toList.take k))).length + 1 ≤ 140737488355328 := by
          have h1 : (Lib.byteCells (packE (t.data.toList.take k))).length = (packE (t.data.toList.take k)).length := by simp [Lib.byteCells]
          have h2 : (t.data.toList.take k).length = 2 * (k / 2) := by rw [List.length_take, size_list]; omega
          rw [h1, packE_length _ _ h2]; omega
        have hn : packE (t.data.toList.take (k + 2)) = packE (t.data.toList.take k) ++ [(16 * hv t[k] + hv t[k + 1]).toUInt8] := by
          rw [take_snoc2 t k hlt1]
          exact packE_snoc _ _ (k / 2) _ (by rw [List.length_take, size_list]; omega)
        have HN := Lib.hid hn
        clear hn
        refine (Tryz.Builder_WriteByte w.heap.size w.heap.size _ _ wr.drew HBd.out hlen HB.out.size).mono ?_
        rintro e w2 ⟨rfl, hb2, hB2⟩
        have HB2 := Lib.hid (HB.out.drew.trans hB2)
        have Hb2 := Lib.hid hb2
        clear hB2 hb2
        go_wp2_with fail
        go_roundw
        case rel => exact ⟨k + 2, by omega, by omega, by go_num, by rw [HN.out, byteCells_snoc]; exact Or.inr Hb2.out, HB2.out⟩
        case measure => simp [intOf]; omega
      · have hke : t.data.toList.take k = t.data.toList := List.take_of_length_le (by rw [size_list]; omega)
        have hb := HBd.out
        rw [hke] at hb
        have HS := Lib.hid (Tryz.Builder_String_any w.heap.size w.heap.size _ wr hb HB.out.size)
        clear hke hb
        go_wp2_with (go_at_call 81; refine (HS.out).mono ?_; rintro e w2 ⟨rfl, hB2⟩; have HB2 := Lib.hid hB2; clear hB2)
        go_ret
        exact ⟨by rw [HP.out]; rfl, HB.out.trans HB2.out⟩
end Go.Proofs.YtommklkihjmgcaaGreatDoor.fieldw
namespace Go.Proofs.YtommklkihjmgcaaGreatDoor.fieldw
open Go.RowKit Go.Proofs.YtommklkihjmgcaaGreatDoor.fieldp

theorem bcell {W w1 : World} (hb : Below W.heap.size W w1) : (∀ b o, b < W.heap.size → w1.cell? ⟨b, o, none⟩ = W.cell? ⟨b, o, none⟩) ∧ (∀ b o, b < W.heap.size → w1.frozen? ⟨b, o, none⟩ = W.frozen? ⟨b, o, none⟩) :=
  ⟨fun b o h => hb.cell (p := ⟨b, o, none⟩) h, fun b o h => hb.frozen (p := ⟨b, o, none⟩) h⟩

def mayB (k n c : Int) : Bool := decide (1 ≤ k ∧ k ≤ 5 ∧ 1 ≤ n ∧ n ≤ 64 ∧ 1 ≤ c ∧ c ≤ 3)

theorem within_any (n m : Int) (w : World) : Calls Tryz.prog 119 #[.int .i64 n, .int .i64 m] w fun e w' => e = .returned (.bool (decide (0 < n ∧ n ≤ m))) ∧ w = w' := by
  by_cases h1 : 0 < n <;> by_cases h2 : n ≤ m
  all_goals
    go_enter Tryz.func119, Tryz.ntmps119
    go_wp2
    go_ret
    exact ⟨by simp [h1, h2], rfl⟩

set_option maxHeartbeats 2000000 in
set_option maxRecDepth 100000 in
theorem may_any (k n c : Int) (w : World) : Calls Tryz.prog 95 #[.agg #[.int .i64 k, .int .i64 n, .int .i64 c]] w fun e w' => e = .returned (.bool (mayB k n c)) ∧ Below w.heap.size w w' := by
  have e : mayB k n c = (decide (0 < k ∧ k ≤ 5) && (decide (0 < n ∧ n ≤ 64) && decide (0 < c ∧ c ≤ 3))) := by
    unfold mayB
    rw [Bool.eq_iff_iff]
    simp only [Bool.and_eq_true, decide_eq_true_eq]
    omega
  have HE := Lib.hid e
  clear e
  have H1 := Lib.hid (within_any k 5)
  have H2 := Lib.hid (within_any n 64)
  have H3 := Lib.hid (within_any c 3)
  generalize decide (0 < k ∧ k ≤ 5) = b1 at HE H1
  generalize decide (0 < n ∧ n ≤ 64) = b2 at HE H2
  generalize decide (0 < c ∧ c ≤ 3) = b3 at HE H3
  cases b1
  case false =>
    go_enter Tryz.func95, Tryz.ntmps95
    go_wp2_with fail
    refine (H1.out _).mono ?_
    rintro e w1 ⟨rfl, rfl⟩
    go_wp2_with fail
    go_ret
    exact ⟨by rw [HE.out]; rfl, (Below.refl _ _).alloc (Nat.le_refl _) _⟩
  case true =>
    cases b2
    case false =>
      go_enter Tryz.func95, Tryz.ntmps95
      go_wp2_with fail
      refine (H1.out _).mono ?_
      rintro e w1 ⟨rfl, rfl⟩
      go_wp2_with fail
      refine (H2.out _).mono ?_
      rintro e w1 ⟨rfl, rfl⟩
      go_wp2_with fail
      go_ret
      exact ⟨by rw [HE.out]; rfl, (Below.refl _ _).alloc (Nat.le_refl _) _⟩
    case true =>
      cases b3
      all_goals
        go_enter Tryz.func95, Tryz.ntmps95
        go_wp2_with fail
        refine (H1.out _).mono ?_
        rintro e w1 ⟨rfl, rfl⟩
        go_wp2_with fail
        refine (H2.out _).mono ?_
        rintro e w1 ⟨rfl, rfl⟩
        go_wp2_with fail
        refine (H3.out _).mono ?_
        rintro e w1 ⟨rfl, rfl⟩
        go_wp2_with fail
        go_ret
        exact ⟨by rw [HE.out]; rfl, (Below.refl _ _).alloc (Nat.le_refl _) _⟩

/-- A code: sign by sign from one row to another one, or two digits a byte, of those of a row. -/
inductive CK where
  | plain (f t : ByteArray)
  | packed (d : ByteArray)
/-- A code's value: its three functions. -/
def CodeAt (w : World) (lo : Nat) (v : Value) : CK → Prop
  | .plain f t => ∃ a b, v = .agg #[.func (.func 120) #[] #[.pointer (some ⟨a, 0, none⟩), .pointer (some ⟨b, 0, none⟩)], .func (.func 122) #[] #[], .func (.func 123) #[] #[.pointer (some ⟨b, 0, none⟩), .pointer (some ⟨a, 0, none⟩)]] ∧
      w.cell? ⟨a, 0, none⟩ = some (.string f) ∧ w.cell? ⟨b, 0, none⟩ = some (.string t) ∧ lo ≤ a ∧ lo ≤ b
  | .packed d => ∃ a, v = .agg #[.func (.func 124) #[] #[], .func (.func 125) #[] #[], .func (.func 126) #[] #[.pointer (some ⟨a, 0, none⟩)]] ∧ w.cell? ⟨a, 0, none⟩ = some (.string d) ∧ lo ≤ a
theorem CodeAt.below {w w' : World} {lo : Nat} {v : Value} {c : CK} (h : CodeAt w lo v c) (hb : Below w.heap.size w w') : CodeAt w' lo v c := by
  cases c with
  | plain f t =>
    obtain ⟨a, b, e, h1, h2, h3, h4⟩ := h
    exact ⟨a, b, e, (hb.cell (World.block_lt_of_cell? w _ h1)).trans h1, (hb.cell (World.block_lt_of_cell? w _ h2)).trans h2, h3, h4⟩
  | packed d =>
    obtain ⟨a, e, h1, h2⟩ := h
    exact ⟨a, e, (hb.cell (World.block_lt_of_cell? w _ h1)).trans h1, h2⟩
theorem CodeAt.lower {w : World} {lo lo' : Nat} {v : Value} {c : CK} (h : CodeAt w lo v c) (hl : lo' ≤ lo) : CodeAt w lo' v c := by
  cases c with
  | plain f t =>
    obtain ⟨a, b, e, h1, h2, h3, h4⟩ := h
    exact ⟨a, b, e, h1, h2, by omega, by omega⟩
  | packed d =>
    obtain ⟨a, e, h1, h2⟩ := h
    exact ⟨a, e, h1, by omega⟩

theorem plain_any (f t : ByteArray) (w : World) : Calls Tryz.prog 103 #[.string f, .string t] w fun e w' => ∃ v, e = .returned v ∧ CodeAt w' w.heap.size v (.plain f t) ∧ Below w.heap.size w w' := by
  go_enter Tryz.func103, Tryz.ntmps103
  go_wp2
  refine bodyPost_ret (v := .agg #[.func (.func 120) #[] #[.pointer (some ⟨w.heap.size, 0, none⟩), .pointer (some ⟨w.heap.size + 1, 0, none⟩)], .func (.func 122) #[] #[], .func (.func 123) #[] #[.pointer (some ⟨w.heap.size + 1, 0, none⟩), .pointer (some ⟨w.heap.size, 0, none⟩)]])
    (by simp [results, Tryz.results103, go_sem]) rfl ⟨_, rfl, ⟨w.heap.size, w.heap.size + 1, rfl, ?_, ?_, Nat.le_refl _, by omega⟩, ?_⟩
  · go_simp
  · go_simp
  · exact (((Below.refl _ _).alloc (Nat.le_refl _) _).alloc (by simp) _).alloc (by simp; omega) _
theorem packed_any (d : ByteArray) (w : World) : Calls Tryz.prog 104 #[.string d] w fun e w' => ∃ v, e = .returned v ∧ CodeAt w' w.heap.size v (.packed d) ∧ Below w.heap.size w w' := by
  go_enter Tryz.func104, Tryz.ntmps104
  go_wp2
  refine bodyPost_ret (v := .agg #[.func (.func 124) #[] #[], .func (.func 125) #[] #[], .func (.func 126) #[] #[.pointer (some ⟨w.heap.size, 0, none⟩)]])
    (by simp [results, Tryz.results104, go_sem]) rfl ⟨_, rfl, ⟨w.heap.size, rfl, ?_, Nat.le_refl _⟩, ?_⟩
  · go_simp
  · exact ((Below.refl _ _).alloc (Nat.le_refl _) _).alloc (by simp) _

def signsB : ByteArray := ⟨#[65, 66, 67, 68, 69, 70, 71, 72, 73, 74, 75, 76, 77, 78, 79, 80, 81, 82, 83, 84, 85, 86, 87, 88, 89, 90, 48, 49, 50, 51, 52, 53, 54, 55, 56, 57, 32]⟩
def ebcB : ByteArray := ⟨#[193, 194, 195, 196, 197, 198, 199, 200, 201, 209, 210, 211, 212, 213, 214, 215, 216, 217, 226, 227, 228, 229, 230, 231, 232, 233, 240, 241, 242, 243, 244, 245, 246, 247, 248, 249, 64]⟩
def tenB : ByteArray := ⟨#[48, 49, 50, 51, 52, 53, 54, 55, 56, 57]⟩
def eb10 : ByteArray := ⟨#[240, 241, 242, 243, 244, 245, 246, 247, 248, 249]⟩
def lowB : ByteArray := ⟨#[48, 49, 50, 51, 52, 53, 54, 55, 56, 57, 97, 98, 99, 100, 101, 102]⟩
def highB : ByteArray := ⟨#[48, 49, 50, 51, 52, 53, 54, 55, 56, 57, 65, 66, 67, 68, 69, 70]⟩
def lettersC (c : Int) : CK := if c = 1 then .plain signsB signsB else if c = 2 then .plain signsB signsB else .plain signsB ebcB
def digitsC (c : Int) : CK := if c = 1 then .plain tenB tenB else if c = 2 then .packed tenB else .plain tenB eb10
def rawC (c : Int) : CK := if c = 1 then .plain lowB highB else .packed lowB

def codesPost (c : Int) (w : World) (e : Ending) (w' : World) : Prop :=
  ∃ vl vd vr, e = .returned (.tuple #[vl, vd, vr]) ∧ CodeAt w' w.heap.size vl (lettersC c) ∧ CodeAt w' w.heap.size vd (digitsC c) ∧ CodeAt w' w.heap.size vr (rawC c) ∧ Below w.heap.size w w'

theorem CodeAt.setCell {w : World} {lo : Nat} {v : Value} {c : CK} (h : CodeAt w lo v c) {p : Addr} (hp : p.block < lo) (u : Value) : CodeAt (w.setCell p u) lo v c := by
  cases c with
  | plain f t =>
    obtain ⟨a, b, e, h1, h2, h3, h4⟩ := h
    exact ⟨a, b, e, (World.cell?_setCell_other w p ⟨a, 0, none⟩ u (by intro h; subst h; exact absurd hp (by simp; omega))).trans h1, (World.cell?_setCell_other w p ⟨b, 0, none⟩ u (by intro h; subst h; exact absurd hp (by simp; omega))).trans h2, h3, h4⟩
  | packed d =>
    obtain ⟨a, e, h1, h2⟩ := h
    exact ⟨a, e, (World.cell?_setCell_other w p ⟨a, 0, none⟩ u (by intro h; subst h; exact absurd hp (by simp; omega))).trans h1, h2⟩

set_option maxHeartbeats 2000000 in
set_option maxRecDepth 100000 in
theorem codes_ascii (k n : Int) (w : World) : Calls Tryz.prog 73 #[.agg #[.int .i64 k, .int .i64 n, .int .i64 1]] w (codesPost 1 w) := by
  go_enter Tryz.func73, Tryz.ntmps73
  go_wp2_with fail
  refine (plain_any signsB signsB _).mono ?_
  rintro e w1 ⟨_, rfl, hk, hb⟩
  have HC1 := Lib.hid hk
  obtain ⟨a1, b1, rfl, x1, y1, la1, lb1⟩ := hk
  have HB1 := Lib.hid hb
  clear hb x1 y1 la1 lb1
  go_wp2_with fail
  refine (plain_any tenB tenB _).mono ?_
  rintro e w2 ⟨_, rfl, hk, hb⟩
  have HC2 := Lib.hid hk
  obtain ⟨a2, b2, rfl, x2, y2, la2, lb2⟩ := hk
  have HB2 := Lib.hid hb
  clear hb x2 y2 la2 lb2
  go_wp2_with fail
  refine (plain_any lowB highB _).mono ?_
  rintro e w3 ⟨_, rfl, hk, hb⟩
  have HC3 := Lib.hid hk
  obtain ⟨a3, b3, rfl, x3, y3, la3, lb3⟩ := hk
  have HB3 := Lib.hid hb
  clear hb x3 y3 la3 lb3
  have hbw := (HB1.out.trans (HB2.out.mono HB1.out.size)).trans (HB3.out.mono (Nat.le_trans HB1.out.size HB2.out.size))
  obtain ⟨hc, hf⟩ := bcell hbw
  have hz : w.heap.size + 4 ≤ w3.heap.size := by have := hbw.size; simp at this; omega
  have HBW := Lib.hid hbw
  clear hbw
  go_wp2_with fail
  have e0 : (w.heap.size + 4 : Nat) ≤ ((((w.alloc (.cells #[.int .i64 k, .int .i64 n, .int .i64 1] 46)).alloc (.cells #[.nilFunc, .nilFunc, .nilFunc] 126)).alloc (.cells #[.nilFunc, .nilFunc, .nilFunc] 126)).alloc (.cells #[.nilFunc, .nilFunc, .nilFunc] 126)).heap.size := by simp
  have C1 := ((HC1.out.below HB2.out).below HB3.out).lower e0
  have C2 := ((HC2.out.below HB3.out).lower HB1.out.size).lower e0
  have C3 := (HC3.out.lower (Nat.le_trans HB1.out.size HB2.out.size)).lower e0
  have F := Below.trans ((((((Below.refl w.heap.size w).alloc (Nat.le_refl _) _).alloc (by simp) _).alloc (by first | (simp; done) | (simp; omega)) _).alloc (by first | (simp; done) | (simp; omega)) _)) (HBW.out.mono (by simp; omega))
  refine bodyPost_ret (v := .tuple #[.agg #[.func (.func 120) #[] #[.pointer (some ⟨a1, 0, none⟩), .pointer (some ⟨b1, 0, none⟩)], .func (.func 122) #[] #[], .func (.func 123) #[] #[.pointer (some ⟨b1, 0, none⟩), .pointer (some ⟨a1, 0, none⟩)]], .agg #[.func (.func 120) #[] #[.pointer (some ⟨a2, 0, none⟩), .pointer (some ⟨b2, 0, none⟩)], .func (.func 122) #[] #[], .func (.func 123) #[] #[.pointer (some ⟨b2, 0, none⟩), .pointer (some ⟨a2, 0, none⟩)]], .agg #[.func (.func 120) #[] #[.pointer (some ⟨a3, 0, none⟩), .pointer (some ⟨b3, 0, none⟩)], .func (.func 122) #[] #[], .func (.func 123) #[] #[.pointer (some ⟨b3, 0, none⟩), .pointer (some ⟨a3, 0, none⟩)]]])
    (by simp [results, Tryz.results73, go_sem, hc]) rfl ⟨_, _, _, rfl, ?_, ?_, ?_, ?_⟩
  · exact CodeAt.lower ((((((((((C1).setCell (by simp) _).setCell (by simp) _).setCell (by simp) _).setCell (by simp) _).setCell (by simp) _).setCell (by simp) _).setCell (by simp) _).setCell (by simp) _).setCell (by simp) _) (Nat.le_add_right _ 4)
  · exact CodeAt.lower ((((((((((C2).setCell (by simp) _).setCell (by simp) _).setCell (by simp) _).setCell (by simp) _).setCell (by simp) _).setCell (by simp) _).setCell (by simp) _).setCell (by simp) _).setCell (by simp) _) (Nat.le_add_right _ 4)
  · exact CodeAt.lower ((((((((((C3).setCell (by simp) _).setCell (by simp) _).setCell (by simp) _).setCell (by simp) _).setCell (by simp) _).setCell (by simp) _).setCell (by simp) _).setCell (by simp) _).setCell (by simp) _) (Nat.le_add_right _ 4)
  · exact ((((((((((F).setCell (by first | (simp; done) | (simp; omega)) _).setCell (by first | (simp; done) | (simp; omega)) _).setCell (by first | (simp; done) | (simp; omega)) _).setCell (by first | (simp; done) | (simp; omega)) _).setCell (by first | (simp; done) | (simp; omega)) _).setCell (by first | (simp; done) | (simp; omega)) _).setCell (by first | (simp; done) | (simp; omega)) _).setCell (by first | (simp; done) | (simp; omega)) _).setCell (by first | (simp; done) | (simp; omega)) _)

set_option maxHeartbeats 2000000 in
set_option maxRecDepth 100000 in
theorem codes_bcd (k n : Int) (w : World) : Calls Tryz.prog 73 #[.agg #[.int .i64 k, .int .i64 n, .int .i64 2]] w (codesPost 2 w) := by
  go_enter Tryz.func73, Tryz.ntmps73
  go_wp2_with fail
  refine (plain_any signsB signsB _).mono ?_
  rintro e w1 ⟨_, rfl, hk, hb⟩
  have HC1 := Lib.hid hk
  obtain ⟨a1, b1, rfl, x1, y1, la1, lb1⟩ := hk
  have HB1 := Lib.hid hb
  clear hb x1 y1 la1 lb1
  go_wp2_with fail
  refine (packed_any tenB _).mono ?_
  rintro e w2 ⟨_, rfl, hk, hb⟩
  have HC2 := Lib.hid hk
  obtain ⟨a2, rfl, x2, la2⟩ := hk
  have HB2 := Lib.hid hb
  clear hb x2 la2
  go_wp2_with fail
  refine (packed_any lowB _).mono ?_
  rintro e w3 ⟨_, rfl, hk, hb⟩
  have HC3 := Lib.hid hk
  obtain ⟨a3, rfl, x3, la3⟩ := hk
  have HB3 := Lib.hid hb
  clear hb x3 la3
  have hbw := (HB1.out.trans (HB2.out.mono HB1.out.size)).trans (HB3.out.mono (Nat.le_trans HB1.out.size HB2.out.size))
  obtain ⟨hc, hf⟩ := bcell hbw
  have hz : w.heap.size + 4 ≤ w3.heap.size := by have := hbw.size; simp at this; omega
  have HBW := Lib.hid hbw
  clear hbw
  go_wp2_with fail
  have e0 : (w.heap.size + 4 : Nat) ≤ ((((w.alloc (.cells #[.int .i64 k, .int .i64 n, .int .i64 2] 46)).alloc (.cells #[.nilFunc, .nilFunc, .nilFunc] 126)).alloc (.cells #[.nilFunc, .nilFunc, .nilFunc] 126)).alloc (.cells #[.nilFunc, .nilFunc, .nilFunc] 126)).heap.size := by simp
  have C1 := ((HC1.out.below HB2.out).below HB3.out).lower e0
  have C2 := ((HC2.out.below HB3.out).lower HB1.out.size).lower e0
  have C3 := (HC3.out.lower (Nat.le_trans HB1.out.size HB2.out.size)).lower e0
  have F := Below.trans ((((((Below.refl w.heap.size w).alloc (Nat.le_refl _) _).alloc (by simp) _).alloc (by first | (simp; done) | (simp; omega)) _).alloc (by first | (simp; done) | (simp; omega)) _)) (HBW.out.mono (by simp; omega))
  refine bodyPost_ret (v := .tuple #[.agg #[.func (.func 120) #[] #[.pointer (some ⟨a1, 0, none⟩), .pointer (some ⟨b1, 0, none⟩)], .func (.func 122) #[] #[], .func (.func 123) #[] #[.pointer (some ⟨b1, 0, none⟩), .pointer (some ⟨a1, 0, none⟩)]], .agg #[.func (.func 124) #[] #[], .func (.func 125) #[] #[], .func (.func 126) #[] #[.pointer (some ⟨a2, 0, none⟩)]], .agg #[.func (.func 124) #[] #[], .func (.func 125) #[] #[], .func (.func 126) #[] #[.pointer (some ⟨a3, 0, none⟩)]]])
    (by simp [results, Tryz.results73, go_sem, hc]) rfl ⟨_, _, _, rfl, ?_, ?_, ?_, ?_⟩
  · exact CodeAt.lower ((((((((((C1).setCell (by simp) _).setCell (by simp) _).setCell (by simp) _).setCell (by simp) _).setCell (by simp) _).setCell (by simp) _).setCell (by simp) _).setCell (by simp) _).setCell (by simp) _) (Nat.le_add_right _ 4)
  · exact CodeAt.lower ((((((((((C2).setCell (by simp) _).setCell (by simp) _).setCell (by simp) _).setCell (by simp) _).setCell (by simp) _).setCell (by simp) _).setCell (by simp) _).setCell (by simp) _).setCell (by simp) _) (Nat.le_add_right _ 4)
  · exact CodeAt.lower ((((((((((C3).setCell (by simp) _).setCell (by simp) _).setCell (by simp) _).setCell (by simp) _).setCell (by simp) _).setCell (by simp) _).setCell (by simp) _).setCell (by simp) _).setCell (by simp) _) (Nat.le_add_right _ 4)
  · exact ((((((((((F).setCell (by first | (simp; done) | (simp; omega)) _).setCell (by first | (simp; done) | (simp; omega)) _).setCell (by first | (simp; done) | (simp; omega)) _).setCell (by first | (simp; done) | (simp; omega)) _).setCell (by first | (simp; done) | (simp; omega)) _).setCell (by first | (simp; done) | (simp; omega)) _).setCell (by first | (simp; done) | (simp; omega)) _).setCell (by first | (simp; done) | (simp; omega)) _).setCell (by first | (simp; done) | (simp; omega)) _)

set_option maxHeartbeats 2000000 in
set_option maxRecDepth 100000 in
theorem codes_ebcdic (k n c : Int) (h1 : c ≠ 1) (h2 : c ≠ 2) (w : World) : Calls Tryz.prog 73 #[.agg #[.int .i64 k, .int .i64 n, .int .i64 c]] w (codesPost c w) := by
  have e1 : (c == 1) = false := beq_eq_false_iff_ne.mpr h1
  have e2 : (c == 2) = false := beq_eq_false_iff_ne.mpr h2
  have N1 : (c = 1) = False := eq_false h1
  have N2 : (c = 2) = False := eq_false h2
  clear h1 h2
  go_enter Tryz.func73, Tryz.ntmps73
  go_wp2_with fail
  go_region_with (first
    | (refine (plain_any signsB ebcB _).mono ?_; rintro e w1 ⟨_, rfl, hk, hb⟩; have HC1 := Lib.hid hk; obtain ⟨a1, b1, rfl, x1, y1, la1, lb1⟩ := hk; have HB1 := Lib.hid hb; clear hb x1 y1 la1 lb1)
    | (refine (plain_any tenB eb10 _).mono ?_; rintro e w2 ⟨_, rfl, hk, hb⟩; have HC2 := Lib.hid hk; obtain ⟨a2, b2, rfl, x2, y2, la2, lb2⟩ := hk; have HB2 := Lib.hid hb; clear hb x2 y2 la2 lb2)
    | (refine (packed_any lowB _).mono ?_; rintro e w3 ⟨_, rfl, hk, hb⟩; have HC3 := Lib.hid hk; obtain ⟨a3, rfl, x3, la3⟩ := hk; have HB3 := Lib.hid hb; have hbw := (HB1.out.trans (HB2.out.mono HB1.out.size)).trans (HB3.out.mono (Nat.le_trans HB1.out.size HB2.out.size)); obtain ⟨hc, hf⟩ := bcell hbw; have hz : w.heap.size + 4 ≤ w3.heap.size := (by have := hbw.size; simp at this; omega); have HBW := Lib.hid hbw; clear hbw hb x3 la3))
  go_wp2_with fail
  have e0 : (w.heap.size + 4 : Nat) ≤ ((((w.alloc (.cells #[.int .i64 k, .int .i64 n, .int .i64 c] 46)).alloc (.cells #[.nilFunc, .nilFunc, .nilFunc] 126)).alloc (.cells #[.nilFunc, .nilFunc, .nilFunc] 126)).alloc (.cells #[.nilFunc, .nilFunc, .nilFunc] 126)).heap.size := by simp
  have C1 := ((HC1.out.below HB2.out).below HB3.out).lower e0
  have C2 := ((HC2.out.below HB3.out).lower HB1.out.size).lower e0
  have C3 := (HC3.out.lower (Nat.le_trans HB1.out.size HB2.out.size)).lower e0
  have F := Below.trans ((((((Below.refl w.heap.size w).alloc (Nat.le_refl _) _).alloc (by simp) _).alloc (by first | (simp; done) | (simp; omega)) _).alloc (by first | (simp; done) | (simp; omega)) _).drew) (HBW.out.mono (by simp; omega))
  refine bodyPost_ret (v := .tuple #[.agg #[.func (.func 120) #[] #[.pointer (some ⟨a1, 0, none⟩), .pointer (some ⟨b1, 0, none⟩)], .func (.func 122) #[] #[], .func (.func 123) #[] #[.pointer (some ⟨b1, 0, none⟩), .pointer (some ⟨a1, 0, none⟩)]], .agg #[.func (.func 120) #[] #[.pointer (some ⟨a2, 0, none⟩), .pointer (some ⟨b2, 0, none⟩)], .func (.func 122) #[] #[], .func (.func 123) #[] #[.pointer (some ⟨b2, 0, none⟩), .pointer (some ⟨a2, 0, none⟩)]], .agg #[.func (.func 124) #[] #[], .func (.func 125) #[] #[], .func (.func 126) #[] #[.pointer (some ⟨a3, 0, none⟩)]]])
    (by simp [results, Tryz.results73, go_sem, hc]) rfl ⟨_, _, _, rfl, ?_, ?_, ?_, ?_⟩
  · rw [show lettersC c = .plain signsB ebcB by simp [lettersC, N1, N2]]
    exact (CodeAt.lower ((((((((((C1).setCell (by simp) _).setCell (by simp) _).setCell (by simp) _).setCell (by simp) _).setCell (by simp) _).setCell (by simp) _).setCell (by simp) _).setCell (by simp) _).setCell (by simp) _) (Nat.le_add_right _ 4))
  · rw [show digitsC c = .plain tenB eb10 by simp [digitsC, N1, N2]]
    exact (CodeAt.lower ((((((((((C2).setCell (by simp) _).setCell (by simp) _).setCell (by simp) _).setCell (by simp) _).setCell (by simp) _).setCell (by simp) _).setCell (by simp) _).setCell (by simp) _).setCell (by simp) _) (Nat.le_add_right _ 4))
  · rw [show rawC c = .packed lowB by simp [rawC, N1]]
    exact (CodeAt.lower ((((((((((C3).setCell (by simp) _).setCell (by simp) _).setCell (by simp) _).setCell (by simp) _).setCell (by simp) _).setCell (by simp) _).setCell (by simp) _).setCell (by simp) _).setCell (by simp) _) (Nat.le_add_right _ 4))
  · exact ((((((((((F).setCell (by first | (simp; done) | (simp; omega)) _).setCell (by first | (simp; done) | (simp; omega)) _).setCell (by first | (simp; done) | (simp; omega)) _).setCell (by first | (simp; done) | (simp; omega)) _).setCell (by first | (simp; done) | (simp; omega)) _).setCell (by first | (simp; done) | (simp; omega)) _).setCell (by first | (simp; done) | (simp; omega)) _).setCell (by first | (simp; done) | (simp; omega)) _).setCell (by first | (simp; done) | (simp; omega)) _)
theorem codes_any (k n c : Int) (w : World) : Calls Tryz.prog 73 #[.agg #[.int .i64 k, .int .i64 n, .int .i64 c]] w (codesPost c w) := by
  by_cases h1 : c = 1
  · subst h1; exact codes_ascii k n w
  · by_cases h2 : c = 2
    · subst h2; exact codes_bcd k n w
    · exact codes_ebcdic k n c h1 h2 w

/-- What a code puts. -/
def CK.put : CK → List UInt8 → List UInt8
  | .plain f t, l => (turnL f.data.toList t.data.toList l).getD []
  | .packed _, l => packL l
end Go.Proofs.YtommklkihjmgcaaGreatDoor.fieldw
namespace Go.Proofs.YtommklkihjmgcaaGreatDoor.fieldw
open Go.RowKit Go.Proofs.YtommklkihjmgcaaGreatDoor.fieldp

set_option maxHeartbeats 1000000 in
theorem of_any (s row : ByteArray) (n : Int) (w : World) (hs : s.size ≤ 200000000) :
    Calls Tryz.prog 89 #[.string s, .string row, .int .i64 n] w fun e w' => e = .returned (.bool (ofB s.data.toList row.data.toList n)) ∧ w = w' := by
  go_enter Tryz.func89, Tryz.ntmps89
  go_wp2_with fail
  go_loop [10] (fun i => ∃ (k : Nat), k ≤ s.size ∧ i = .int .i64 k ∧ (s.data.toList.take k).all (inRow row.data.toList) = true) (fun i => s.size - (intOf i).toNat)
  case atStart => exact ⟨0, Nat.zero_le _, rfl, rfl⟩
  case round =>
    obtain ⟨k, hk, rfl, hall⟩ := hrel
    have HA := Lib.hid hall
    clear hall
    by_cases hlt : k < s.size
    · by_cases hidx : Lib.indexByte row.data.toList s[k] = -1
      · have HI := Lib.hid (index_none row s[k] w hidx)
        have hfin : ofB s.data.toList row.data.toList n = false := by
          unfold ofB
          rw [split_at s k, drop_cons s k hlt]
          simp [inRow, hidx]
        have HF := Lib.hid hfin
        clear hidx hfin
        go_wp2_with (go_at_call 118; refine (HI.out).mono ?_; rintro e w1 ⟨rfl, rfl⟩)
        go_ret
        exact ⟨by rw [HF.out]; rfl, rfl⟩
      · obtain ⟨m, hm⟩ : ∃ m : Nat, Lib.indexByte row.data.toList s[k] = (m : Int) := by
          have := Lib.indexByte_ge row.data.toList s[k]
          exact ⟨(Lib.indexByte row.data.toList s[k]).toNat, by omega⟩
        have hn : (s.data.toList.take (k + 1)).all (inRow row.data.toList) = true := by
          rw [take_snoc s k hlt, all_snoc, HA.out]
          simp [inRow, hidx]
        have HN := Lib.hid hn
        have HI := Lib.hid (index_some row s[k] m w hm)
        clear hidx hm hn
        go_wp2_with (go_at_call 118; refine (HI.out).mono ?_; rintro e w1 ⟨rfl, rfl⟩)
        go_round
        case rel => exact ⟨k + 1, by omega, by go_num, HN.out⟩
        case measure => simp [intOf]; omega
    · have hke : s.data.toList.take k = s.data.toList := List.take_of_length_le (by rw [size_list]; omega)
      have hfin : ofB s.data.toList row.data.toList n = ((s.size : Int) == n) := by
        have := HA.out
        rw [hke] at this
        unfold ofB
        rw [this, size_list]
        by_cases e : (s.size : Int) = n <;> simp [e]
      have HF := Lib.hid hfin
      clear hke hfin
      go_wp2
      go_ret
      exact ⟨by rw [HF.out]; rfl, rfl⟩

theorem put_plain (s f t : ByteArray) (a b : Nat) (w : World) (ha : w.cell? ⟨a, 0, none⟩ = some (.string f)) (hb : w.cell? ⟨b, 0, none⟩ = some (.string t)) (hs : s.size ≤ 100000000) (hft : f.size ≤ t.size) :
    Calls Tryz.prog 120 #[.string s, .pointer (some ⟨a, 0, none⟩), .pointer (some ⟨b, 0, none⟩)] w fun e w' => e = .returned (.string ⟨((turnL f.data.toList t.data.toList s.data.toList).getD []).toArray⟩) ∧ Below w.heap.size w w' := by
  go_enter Tryz.func120, Tryz.ntmps120
  go_wp2_with fail
  refine (turned_any s f t w hs hft).mono ?_
  rintro e w1 ⟨rfl, hb1⟩
  have HB := Lib.hid hb1
  clear hb1
  go_wp2_with fail
  go_ret
  exact ⟨rfl, HB.out⟩
theorem take_plain (s f t : ByteArray) (n : Int) (a b : Nat) (w : World) (ha : w.cell? ⟨a, 0, none⟩ = some (.string f)) (hb : w.cell? ⟨b, 0, none⟩ = some (.string t)) (hs : s.size ≤ 100000000) (hft : t.size ≤ f.size) :
    Calls Tryz.prog 123 #[.string s, .int .i64 n, .pointer (some ⟨b, 0, none⟩), .pointer (some ⟨a, 0, none⟩)] w (ret2 (turnL t.data.toList f.data.toList s.data.toList) w) := by
  go_enter Tryz.func123, Tryz.ntmps123
  go_wp2_with fail
  refine (turned_any s t f w hs hft).mono ?_
  rintro e w1 ⟨rfl, hb1⟩
  have HB := Lib.hid hb1
  clear hb1
  go_wp2_with fail
  go_ret2
  exact ⟨rfl, HB.out⟩
theorem size_plain (n : Int) (w : World) : Calls Tryz.prog 122 #[.int .i64 n] w fun e w' => e = .returned (.int .i64 n) ∧ w = w' := by
  go_enter Tryz.func122, Tryz.ntmps122
  go_wp2
  go_ret
  exact ⟨rfl, rfl⟩
theorem size_packed (n : Int) (w : World) (h0 : 0 ≤ n) (h1 : n ≤ 1000) : Calls Tryz.prog 125 #[.int .i64 n] w fun e w' => e = .returned (.int .i64 ((n + 1) / 2)) ∧ w = w' := by
  go_enter Tryz.func125, Tryz.ntmps125
  go_wp2
  go_ret
  exact ⟨rfl, rfl⟩

theorem ext_tail (c : UInt8) (r : List UInt8) : (⟨(c :: r).toArray⟩ : ByteArray).extract 1 (r.length + 1) = ⟨r.toArray⟩ := by
  have h : ((⟨(c :: r).toArray⟩ : ByteArray).extract 1 (r.length + 1)).data.toList = r := by
    simp [ByteArray.data_extract]
  cases hx : (⟨(c :: r).toArray⟩ : ByteArray).extract 1 (r.length + 1) with
  | mk a =>
    rw [hx] at h
    simp only at h
    rw [← h]
/-- What a packed row says: as many digits, a nought ahead of an odd number. -/
def takePacked (d : List UInt8) (l : List UInt8) (n : Nat) : Option (List UInt8) :=
  if n % 2 = 1 then (if (unpackL l).head? = some 48 then (if ofB (unpackL l).tail d n then some (unpackL l).tail else none) else none)
  else if ofB (unpackL l) d n then some (unpackL l) else none
def ret2b (l : Option (List UInt8)) (w : World) (e : Ending) (w' : World) : Prop := ∃ x, e = .returned (.tuple #[.string ⟨x.toArray⟩, .bool l.isSome]) ∧ (∀ y, l = some y → x = y) ∧ Below w.heap.size w w'

set_option maxHeartbeats 1000000 in
theorem take_packed (s d : ByteArray) (n : Nat) (a : Nat) (w : World) (ha : w.cell? ⟨a, 0, none⟩ = some (.string d)) (hs : s.size ≤ 1000) (hn : n ≤ 1000) (hsn : n % 2 = 1 → 1 ≤ s.size) :
    Calls Tryz.prog 126 #[.string s, .int .i64 n, .pointer (some ⟨a, 0, none⟩)] w (ret2b (takePacked d.data.toList s.data.toList n) w) := by
  have hlen : (unpackL s.data.toList).length = 2 * s.size := by rw [unpackL_length, size_list]
  have haw := World.block_lt_of_cell? w _ ha
  by_cases hodd : n % 2 = 1
  · have h1 : (((n : Int) % 2 : Int) == 1) = true := by rw [beq_iff_eq]; omega
    obtain ⟨c, r, hcr⟩ : ∃ c r, unpackL s.data.toList = c :: r := by
      cases h : unpackL s.data.toList with
      | nil => rw [h] at hlen; simp at hlen; have := hsn hodd; omega
      | cons c r => exact ⟨c, r, rfl⟩
    have U := unpack_any s w (by omega)
    rw [hcr] at U
    have HU := Lib.hid U
    have hr : r.length ≤ 10000 := by rw [hcr] at hlen; simp at hlen; omega
    by_cases h48 : c = 48
    · subst h48
      have hfin : takePacked d.data.toList s.data.toList n = if ofB r d.data.toList n then some r else none := by simp [takePacked, hodd, hcr]
      have HF := Lib.hid hfin
      clear hfin U hcr hlen hodd hsn
      go_enter Tryz.func126, Tryz.ntmps126
      go_wp2_with fail
      refine (HU.out).mono ?_
      rintro e w1 ⟨rfl, hb1⟩
      obtain ⟨hc, hf⟩ := bcell hb1
      have HB := Lib.hid hb1
      clear hb1
      go_wp2_with fail
      have hext : (⟨(48 :: r).toArray⟩ : ByteArray).extract 1 (r.length + 1) = ⟨r.toArray⟩ := ext_tail 48 r
      rw [hext]
      refine (of_any ⟨r.toArray⟩ d n w1 (by simp [ByteArray.size]; omega)).mono ?_
      rintro e w2 ⟨rfl, rfl⟩
      have HX := Lib.hid hext
      clear hext
      go_wp2_with fail
      go_ret2
      refine ⟨r, ?_, ?_, HB.out⟩
      · rw [HF.out]
        show Ending.returned (.tuple #[.string ⟨r.toArray⟩, .bool (ofB r d.data.toList n)]) = _
        cases ofB r d.data.toList n <;> rfl
      · intro y hy
        rw [HF.out] at hy
        split at hy
        · exact Option.some.inj hy
        · cases hy
    · have hfin : takePacked d.data.toList s.data.toList n = none := by simp [takePacked, hodd, hcr, h48]
      have HF := Lib.hid hfin
      have hn48 : (((c.toNat : Int)) != 48) = true := by
        rw [bne_iff_ne]
        intro h
        exact h48 (UInt8.toNat_inj.1 (by simp; omega))
      have hn48' : ((((⟨(c :: r).toArray⟩ : ByteArray)[0]'(by simp [ByteArray.size])).toNat : Int) != 48) = true := hn48
      clear hfin U hcr hlen hodd hsn h48
      go_enter Tryz.func126, Tryz.ntmps126
      go_wp2_with fail
      refine (HU.out).mono ?_
      rintro e w1 ⟨rfl, hb1⟩
      have HB := Lib.hid hb1
      clear hb1
      go_wp2_with fail
      go_ret2
      exact ⟨[], by rw [HF.out]; rfl, (fun y hy => by rw [HF.out] at hy; cases hy), HB.out⟩
  · have h1 : (((n : Int) % 2 : Int) == 1) = false := by rw [beq_eq_false_iff_ne]; omega
    have hfin : takePacked d.data.toList s.data.toList n = if ofB (unpackL s.data.toList) d.data.toList n then some (unpackL s.data.toList) else none := by simp [takePacked, hodd]
    have HF := Lib.hid hfin
    have HU := Lib.hid (unpack_any s w (by omega))
    have hr : (unpackL s.data.toList).length ≤ 10000 := by omega
    generalize unpackL s.data.toList = r at HF HU hr
    clear hfin hlen hodd hsn
    go_enter Tryz.func126, Tryz.ntmps126
    go_wp2_with fail
    refine (HU.out).mono ?_
    rintro e w1 ⟨rfl, hb1⟩
    obtain ⟨hc, hf⟩ := bcell hb1
    have HB := Lib.hid hb1
    clear hb1
    go_wp2_with fail
    refine (of_any ⟨r.toArray⟩ d n w1 (by simp [ByteArray.size]; omega)).mono ?_
    rintro e w2 ⟨rfl, rfl⟩
    go_wp2_with fail
    go_ret2
    refine ⟨r, ?_, ?_, HB.out⟩
    · rw [HF.out]
      show Ending.returned (.tuple #[.string ⟨r.toArray⟩, .bool (ofB r d.data.toList n)]) = _
      cases ofB r d.data.toList n <;> rfl
    · intro y hy
      rw [HF.out] at hy
      split at hy
      · exact Option.some.inj hy
      · cases hy
end Go.Proofs.YtommklkihjmgcaaGreatDoor.fieldw
namespace Go.Proofs.YtommklkihjmgcaaGreatDoor.fieldw
open Go.RowKit Go.Proofs.YtommklkihjmgcaaGreatDoor.fieldp

theorem byte_ne {u : UInt8} {v : Nat} (hv : v < 256) (h : u ≠ v.toUInt8) : ((u.toNat : Int) != (v : Int)) = true := by
  rw [bne_iff_ne]
  intro e
  apply h
  apply UInt8.toNat_inj.1
  simp only [Nat.toUInt8, UInt8.toNat_ofNat']
  omega
theorem size_cons {s : ByteArray} {d : UInt8} {r : List UInt8} (h : s.data.toList = d :: r) : s.size = r.length + 1 := by
  rw [← size_list, h]; rfl
theorem tail_data (s : ByteArray) (d : UInt8) (r : List UInt8) (h : s.data.toList = d :: r) : (s.extract 1 s.size).data.toList = r := by
  have hz := size_cons h
  simp [ByteArray.data_extract, h, hz]
theorem head_eq {s : ByteArray} {d : UInt8} {r : List UInt8} (h : s.data.toList = d :: r) (h0 : 0 < s.size) : s[0] = d := by
  have : s.data.toList[0]? = some d := by rw [h]; rfl
  rw [List.getElem?_eq_getElem (by simpa using h0)] at this
  exact Option.some.inj this

set_option maxHeartbeats 2000000 in
theorem right_x (n c : Int) (s : ByteArray) (w : World) (hs : s.size ≤ 100000000) :
    Calls Tryz.prog 96 #[.agg #[.int .i64 5, .int .i64 n, .int .i64 c], .string s] w fun e w' => e = .returned (.bool (rightB 5 n s.data.toList)) ∧ Below w.heap.size w w' := by
  cases hl : s.data.toList with
  | nil =>
    have he : s.toList.isEmpty = true := by rw [ByteArray.toList_eq, hl]; rfl
    have he2 : s.toList = [] := by rw [ByteArray.toList_eq, hl]
    clear hl
    go_enter Tryz.func96, Tryz.ntmps96
    go_wp2_with fail
    go_ret
    exact ⟨rfl, (Below.refl _ _).alloc (Nat.le_refl _) _⟩
  | cons d r =>
    have he : s.toList.isEmpty = false := by rw [ByteArray.toList_eq, hl]; rfl
    have he2 : (s.toList = []) = False := by rw [ByteArray.toList_eq, hl]; simp
    have hz := size_cons hl
    have h0 : 0 < s.size := by omega
    have hd := head_eq hl h0
    have hof : ∀ w, Calls Tryz.prog 89 #[.string (s.extract 1 s.size), .string ⟨#[48, 49, 50, 51, 52, 53, 54, 55, 56, 57]⟩, .int .i64 n] w fun e w' => e = .returned (.bool (ofB r tenL n)) ∧ w = w' := by
      intro w
      have := of_any (s.extract 1 s.size) ⟨#[48, 49, 50, 51, 52, 53, 54, 55, 56, 57]⟩ n w (by rw [← size_list, tail_data s d r hl]; omega)
      rw [tail_data s d r hl] at this
      exact this
    have HO := Lib.hid hof
    clear hof hl hz
    by_cases d1 : d = 67
    · subst d1
      have t1 : ((s[0].toNat : Int) != 67) = false := by rw [hd]; rfl
      have HD := Lib.hid hd
      clear hd
      go_enter Tryz.func96, Tryz.ntmps96
      go_wp2_with fail
      refine (HO.out _).mono ?_
      rintro e w1 ⟨rfl, rfl⟩
      go_wp2_with fail
      go_ret
      exact ⟨rfl, (Below.refl _ _).alloc (Nat.le_refl _) _⟩
    · by_cases d2 : d = 68
      · subst d2
        have t1 : ((s[0].toNat : Int) != 67) = true := by rw [hd]; rfl
        have t2 : ((s[0].toNat : Int) != 68) = false := by rw [hd]; rfl
        have HD := Lib.hid hd
        clear hd
        go_enter Tryz.func96, Tryz.ntmps96
        go_wp2_with fail
        refine (HO.out _).mono ?_
        rintro e w1 ⟨rfl, rfl⟩
        go_wp2_with fail
        go_ret
        exact ⟨rfl, (Below.refl _ _).alloc (Nat.le_refl _) _⟩
      · have t1 : ((s[0].toNat : Int) != 67) = true := by rw [hd]; exact byte_ne (v := 67) (by omega) d1
        have t2 : ((s[0].toNat : Int) != 68) = true := by rw [hd]; exact byte_ne (v := 68) (by omega) d2
        have hfin : rightB 5 n (d :: r) = false := by simp [rightB, d1, d2]
        have HF := Lib.hid hfin
        have HD := Lib.hid hd
        clear hd d1 d2 hfin
        go_enter Tryz.func96, Tryz.ntmps96
        go_wp2_with fail
        go_ret
        exact ⟨by rw [HF.out]; rfl, (Below.refl _ _).alloc (Nat.le_refl _) _⟩

set_option maxHeartbeats 2000000 in
theorem right_any (k n c : Int) (s : ByteArray) (w : World) (hs : s.size ≤ 100000000) (h0 : 1 ≤ n) (h1 : n ≤ 64) :
    Calls Tryz.prog 96 #[.agg #[.int .i64 k, .int .i64 n, .int .i64 c], .string s] w fun e w' => e = .returned (.bool (rightB k n s.data.toList)) ∧ Below w.heap.size w w' := by
  by_cases k5 : k = 5
  · subst k5; exact right_x n c s w hs
  have HO := Lib.hid (fun (row : ByteArray) (m : Int) (w : World) => of_any s row m w (by omega))
  have e5 : (k == 5) = false := beq_eq_false_iff_ne.mpr k5
  by_cases k1 : k = 1
  · subst k1
    have hfin : rightB 1 n s.data.toList = ofB s.data.toList tenL n := rfl
    have HF := Lib.hid hfin
    clear hfin k5
    go_enter Tryz.func96, Tryz.ntmps96
    go_wp2_with fail
    refine (HO.out _ _ _).mono ?_
    rintro e w1 ⟨rfl, rfl⟩
    go_wp2_with fail
    go_ret
    exact ⟨by rw [HF.out]; rfl, (Below.refl _ _).alloc (Nat.le_refl _) _⟩
  have e1 : (k == 1) = false := beq_eq_false_iff_ne.mpr k1
  by_cases k2 : k = 2
  · subst k2
    have hfin : rightB 2 n s.data.toList = (decide (0 < s.size ∧ (s.size : Int) ≤ n) && ofB s.data.toList tenL s.size) := by
      simp only [rightB, size_list]; rfl
    have HF := Lib.hid hfin
    clear hfin k5 k1
    by_cases z0 : 0 < s.size
    · by_cases z1 : (s.size : Int) ≤ n
      · go_enter Tryz.func96, Tryz.ntmps96
        go_wp2_with fail
        refine (HO.out _ _ _).mono ?_
        rintro e w1 ⟨rfl, rfl⟩
        go_wp2_with fail
        go_ret
        exact ⟨by rw [HF.out]; simp [z0, z1]; rfl, (Below.refl _ _).alloc (Nat.le_refl _) _⟩
      · go_enter Tryz.func96, Tryz.ntmps96
        go_wp2_with fail
        go_ret
        exact ⟨by rw [HF.out, decide_eq_false (show ¬ (0 < s.size ∧ (s.size : Int) ≤ n) by omega)]; rfl, (Below.refl _ _).alloc (Nat.le_refl _) _⟩
    · go_enter Tryz.func96, Tryz.ntmps96
      go_wp2_with fail
      go_ret
      exact ⟨by rw [HF.out, decide_eq_false (show ¬ (0 < s.size ∧ (s.size : Int) ≤ n) by omega)]; rfl, (Below.refl _ _).alloc (Nat.le_refl _) _⟩
  have e2 : (k == 2) = false := beq_eq_false_iff_ne.mpr k2
  by_cases k3 : k = 3
  · subst k3
    have hfin : rightB 3 n s.data.toList = ofB s.data.toList signsL n := rfl
    have HF := Lib.hid hfin
    clear hfin k5 k1 k2
    go_enter Tryz.func96, Tryz.ntmps96
    go_wp2_with fail
    refine (HO.out _ _ _).mono ?_
    rintro e w1 ⟨rfl, rfl⟩
    go_wp2_with fail
    go_ret
    exact ⟨by rw [HF.out]; rfl, (Below.refl _ _).alloc (Nat.le_refl _) _⟩
  have e3 : (k == 3) = false := beq_eq_false_iff_ne.mpr k3
  have hfin : rightB k n s.data.toList = ofB s.data.toList hexL (2 * n) := by simp [rightB, k1, k2, k3, k5]
  have HF := Lib.hid hfin
  clear hfin k5 k1 k2 k3
  go_enter Tryz.func96, Tryz.ntmps96
  go_wp2_with fail
  refine (HO.out _ _ _).mono ?_
  rintro e w1 ⟨rfl, rfl⟩
  go_wp2_with fail
  go_ret
  exact ⟨by rw [HF.out]; rfl, (Below.refl _ _).alloc (Nat.le_refl _) _⟩

def checkR (k n c : Int) (l : List UInt8) : Int := if mayB k n c = true then (if rightB k n l = true then 0 else 41) else 40
set_option maxHeartbeats 2000000 in
theorem check_any (k n c : Int) (s : ByteArray) (w : World) (hs : s.size ≤ 100000000) :
    Calls Tryz.prog 64 #[.agg #[.int .i64 k, .int .i64 n, .int .i64 c], .string s] w fun e w' => e = .returned (.int .i64 (checkR k n c s.data.toList)) ∧ Below w.heap.size w w' := by
  have HM := Lib.hid (may_any k n c)
  cases hm : mayB k n c with
  | false =>
    have hfin : checkR k n c s.data.toList = 40 := by simp [checkR, hm]
    have HF := Lib.hid hfin
    rw [hm] at HM
    clear hfin hm
    go_enter Tryz.func64, Tryz.ntmps64
    go_wp2_with fail
    refine (HM.out _).mono ?_
    rintro e w1 ⟨rfl, hb1⟩
    have HB := Lib.hid (((Below.refl w.heap.size w).alloc (Nat.le_refl _) _).trans (hb1.mono (by simp)))
    clear hb1
    go_wp2_with fail
    go_ret
    exact ⟨by rw [HF.out]; rfl, HB.out⟩
  | true =>
    have hn : 1 ≤ n ∧ n ≤ 64 := by simp [mayB] at hm; omega
    have HR := Lib.hid (fun w => right_any k n c s w hs hn.1 hn.2)
    have hfin : checkR k n c s.data.toList = if rightB k n s.data.toList = true then 0 else 41 := by simp [checkR, hm]
    have HF := Lib.hid hfin
    rw [hm] at HM
    generalize rightB k n s.data.toList = b at HR HF
    clear hfin hm hn
    cases b
    all_goals
      go_enter Tryz.func64, Tryz.ntmps64
      go_wp2_with fail
      refine (HM.out _).mono ?_
      rintro e w1 ⟨rfl, hb1⟩
      obtain ⟨hc1, hf1⟩ := bcell hb1
      have HB := Lib.hid (((Below.refl w.heap.size w).alloc (Nat.le_refl _) _).trans (hb1.mono (by simp)))
      clear hb1
      go_wp2_with fail
      refine (HR.out _).mono ?_
      rintro e w2 ⟨rfl, hb2⟩
      have HB2 := Lib.hid (HB.out.trans (hb2.mono HB.out.size))
      clear hb2
      go_wp2_with fail
      go_ret
      exact ⟨by rw [HF.out]; rfl, HB2.out⟩
end Go.Proofs.YtommklkihjmgcaaGreatDoor.fieldw
namespace Go.Proofs.YtommklkihjmgcaaGreatDoor.fieldw
open Go.RowKit Go.Proofs.YtommklkihjmgcaaGreatDoor.fieldp
theorem ofB_all {l row : List UInt8} {n : Int} (h : ofB l row n = true) : l.all (inRow row) = true ∧ (l.length : Int) = n := by
  unfold ofB at h
  simpa using h
end Go.Proofs.YtommklkihjmgcaaGreatDoor.fieldw
namespace Go.Proofs.YtommklkihjmgcaaGreatDoor.fieldw
open Go.RowKit Go.Proofs.YtommklkihjmgcaaGreatDoor.fieldp Go.Proofs.YtommklkihjmgcaaGreatDoorW.PrintWords Go.Proofs.YtommklkihjmgcaaGreatDoorW.PrintLast

/-- A row of bytes that nothing else holds. -/
def BytesAt (w : World) (b : Nat) (l : List UInt8) : Prop :=
  ∃ C fr, w.heap[b]? = some (.cells C 5 fr) ∧ l.length ≤ fr.1 ∧ ∀ j (h : j < l.length), C[j]? = some (.int .u8 (l[j].toNat : Int))
theorem BytesAt.cell {w : World} {b : Nat} {l : List UInt8} (h : BytesAt w b l) (j : Nat) (hj : j < l.length) : w.cell? ⟨b, j, none⟩ = some (.int .u8 (l[j].toNat : Int)) := by
  obtain ⟨C, fr, h1, _, h2⟩ := h
  unfold World.cell?
  rw [h1]
  simpa using h2 j hj
theorem BytesAt.frozen {w : World} {b : Nat} {l : List UInt8} (h : BytesAt w b l) (j : Nat) (hj : j < l.length) : w.frozen? ⟨b, j, none⟩ = false := by
  obtain ⟨C, fr, h1, h3, h2⟩ := h
  unfold World.frozen?
  rw [h1]
  obtain ⟨lo, hi⟩ := fr
  simp only at h3 ⊢
  rw [decide_eq_false (show ¬ lo ≤ j by omega)]
  rfl
theorem BytesAt.set {w : World} {b : Nat} {l : List UInt8} (h : BytesAt w b l) (j : Nat) (x : UInt8) : BytesAt (w.setCell ⟨b, j, none⟩ (.int .u8 (x.toNat : Int))) b (l.set j x) := by
  obtain ⟨C, fr, h1, h3, h2⟩ := h
  refine ⟨C.setIfInBounds j (.int .u8 (x.toNat : Int)), fr, ?_, by simpa using h3, ?_⟩
  · unfold World.setCell
    simp [h1, Array.getElem?_modify]
  · intro k hk
    have hk' : k < l.length := by simpa using hk
    have := h2 k hk'
    rw [Array.getElem?_setIfInBounds, List.getElem_set]
    by_cases e : j = k
    · subst e
      have := (Array.getElem?_eq_some_iff.1 this).1
      simp [this]
    · simp [e, this]
theorem BytesAt.drew {w : World} {b : Nat} {l : List UInt8} (h : BytesAt w b l) : BytesAt w.drew b l := h
theorem BytesAt.fresh (w : World) (s : ByteArray) (cap : Nat) : BytesAt (w.alloc (.cells (bytesRow s cap) 5 ((bytesRow s cap).size, (bytesRow s cap).size + 1))) w.heap.size s.data.toList := by
  refine ⟨bytesRow s cap, ((bytesRow s cap).size, (bytesRow s cap).size + 1), by show (w.heap.push _)[w.heap.size]? = _; simp, ?_, ?_⟩
  · simp [bytesRow]
  · intro j hj
    rw [bytesRow_at s cap j (by simpa using hj)]
    rfl
theorem BytesAt.back {w : World} {b cap : Nat} {l : List UInt8} (h : BytesAt w b l) :
    (convert 33 9 (.slice (some ⟨b, 0, none⟩) l.length cap)).run Tryz.prog w = .ok (.string ⟨l.toArray⟩) w := by
  refine run_convert_bytes_back w _ _ 5 ⟨b, 0, none⟩ cap l Tryz.underlying33 Tryz.underlying5 Tryz.underlying9 ?_
  intro j hj
  have := h.cell j hj
  rw [← this, show (⟨b, 0, none⟩ : Addr).add j = ⟨b, j, none⟩ from by unfold Addr.add; split <;> simp_all]
end Go.Proofs.YtommklkihjmgcaaGreatDoor.fieldw
namespace Go.Proofs.YtommklkihjmgcaaGreatDoor.fieldw
open Go.RowKit Go.Proofs.YtommklkihjmgcaaGreatDoor.fieldp Go.Proofs.YtommklkihjmgcaaGreatDoorW.PrintWords Go.Proofs.YtommklkihjmgcaaGreatDoorW.PrintLast

theorem take_dig {s : ByteArray} (h : s.data.toList.all (inRow tenL) = true) (k : Nat) : ∀ c ∈ s.data.toList.take k, isDig c :=
  fun c hc => row_dig (List.all_eq_true.1 h c (List.mem_of_mem_take hc))
set_option maxHeartbeats 2000000 in
set_option maxRecDepth 100000 in
theorem amount_any (s : ByteArray) (w : World) (hs : s.size ≤ 100000000) :
    Calls Tryz.prog 58 #[.string s] w fun e w' => e = .returned (.tuple #[.int .i64 (amountR s.data.toList).1, .int .i64 (amountR s.data.toList).2]) ∧ w = w' := by
  have HO := Lib.hid (fun w => of_any s ⟨#[48, 49, 50, 51, 52, 53, 54, 55, 56, 57]⟩ s.size w (by omega))
  by_cases h0 : s.data.toList = []
  · have he : s.toList = [] := by rw [ByteArray.toList_eq, h0]
    have he1 : s.toList.isEmpty = true := by rw [he]; rfl
    have e : amountR s.data.toList = (0, 41) := by simp [amountR, h0]
    rw [e]
    clear e h0
    go_enter Tryz.func58, Tryz.ntmps58
    go_wp2_with fail
    go_ret2
    exact ⟨rfl, rfl⟩
  · have he : (s.toList = []) = False := by rw [ByteArray.toList_eq]; simpa using h0
    have he1 : s.toList.isEmpty = false := by
      rw [ByteArray.toList_eq]
      cases h : s.data.toList with
      | nil => exact absurd h h0
      | cons => rfl
    by_cases h1 : 18 < s.size
    · have e : amountR s.data.toList = (0, 41) := by
        unfold amountR
        rw [if_neg]
        rintro ⟨_, h, _⟩
        rw [size_list] at h
        omega
      rw [e]
      clear e h0
      go_enter Tryz.func58, Tryz.ntmps58
      go_wp2_with fail
      go_ret2
      exact ⟨rfl, rfl⟩
    · have hd18 : decide (18 < (s.size : Int)) = false := by simp; omega
      cases ho : ofB s.data.toList tenL s.size with
      | false =>
        have e : amountR s.data.toList = (0, 41) := by
          unfold amountR
          rw [if_neg]
          rintro ⟨_, _, h⟩
          rw [ofB, h] at ho
          simp at ho
        rw [e]
        have HO' := HO.out
        rw [show (⟨#[48, 49, 50, 51, 52, 53, 54, 55, 56, 57]⟩ : ByteArray).data.toList = tenL from rfl, ho] at HO'
        have HO2 := Lib.hid HO'
        clear e h0 ho HO'
        go_enter Tryz.func58, Tryz.ntmps58
        go_wp2_with fail
        refine (HO2.out _).mono ?_
        rintro e w1 ⟨rfl, rfl⟩
        go_wp2_with fail
        go_ret2
        exact ⟨rfl, rfl⟩
      | true =>
        obtain ⟨hall, -⟩ := ofB_all ho
        have e : amountR s.data.toList = (numL s.data.toList, 0) := by
          unfold amountR
          rw [if_pos ⟨h0, by rw [size_list]; omega, hall⟩]
        rw [e]
        have HALL := Lib.hid hall
        have HO' := HO.out
        rw [show (⟨#[48, 49, 50, 51, 52, 53, 54, 55, 56, 57]⟩ : ByteArray).data.toList = tenL from rfl, ho] at HO'
        have HO2 := Lib.hid HO'
        have hs18 : s.size ≤ 18 := by omega
        clear e h0 ho HO' hall
        go_enter Tryz.func58, Tryz.ntmps58
        go_wp2_with fail
        refine (HO2.out _).mono ?_
        rintro e w1 ⟨rfl, rfl⟩
        go_wp2_with fail
        go_loop [4, 22] (fun n i => ∃ k : Nat, k ≤ s.size ∧ i = .int .i64 k ∧ n = .int .i64 (numL (s.data.toList.take k))) (fun _ i => s.size - (intOf i).toNat)
        case atStart => exact ⟨0, Nat.zero_le _, rfl, rfl⟩
        case round =>
          obtain ⟨k, hk, rfl, rfl⟩ := hrel
          by_cases hlt : k < s.size
          · have hs1 : numL (s.data.toList.take (k + 1)) = 10 * numL (s.data.toList.take k) + ((s[k].toNat : Int) - 48) := by rw [take_snoc s k hlt, numL_snoc]
            have hdg : isDig s[k] := take_dig HALL.out (k + 1) _ (by rw [take_snoc s k hlt]; simp)
            have hr := numL_range k _ (by rw [List.length_take, size_list]; omega) (take_dig HALL.out k)
            have hp : (10 : Int) ^ k ≤ 10 ^ 17 := by
              have : (10 : Nat) ^ k ≤ 10 ^ 17 := Nat.pow_le_pow_right (by decide) (by omega)
              exact_mod_cast this
            generalize numL (s.data.toList.take k) = m at hs1 hr ⊢
            have hm0 : 0 ≤ m := hr.1
            have hm1 : m < 100000000000000000 := by have := hr.2; omega
            unfold isDig at hdg
            have hw1 : IntKind.i64.wrap (10 * m) = 10 * m := IntWalk.i64_in _ (by omega)
            have hw2 : IntKind.u8.wrap ((s[k].toNat : Int) - 48) = (s[k].toNat : Int) - 48 := IntWalk.u8_in _ (by omega)
            have hw3 : IntKind.i64.wrap ((s[k].toNat : Int) - 48) = (s[k].toNat : Int) - 48 := IntWalk.i64_in _ (by omega)
            have hw4 : IntKind.i64.wrap (10 * m + ((s[k].toNat : Int) - 48)) = 10 * m + ((s[k].toNat : Int) - 48) := IntWalk.i64_in _ (by omega)
            have HS1 := Lib.hid hs1
            have HM := Lib.hid hm1
            clear hs1 hr hp hm1
            go_wp2_with fail
            exact ⟨⟨k + 1, by omega, by go_num, by rw [HS1.out]⟩, by simp [intOf]; omega⟩
          · have hke : s.data.toList.take k = s.data.toList := List.take_of_length_le (by rw [size_list]; omega)
            rw [hke]
            clear hke
            go_wp2_with fail
            go_ret2
            exact ⟨rfl, rfl⟩
end Go.Proofs.YtommklkihjmgcaaGreatDoor.fieldw
