/- Walks of layer 4's inner functions: turned. Conditions: as each theorem says. -/
import Derived.Test.YtcgfbdleapjigaaShelf
import Derived.Test.YtcgfbdleapjigaaFieldPlain
import Derived.WalkKit
import Derived.LoopTactic
import Derived.Deep.LoopGhost
import Derived.WalkSpells
import Derived.WalkLawsBesides
import Derived.Lib.Hide
import Derived.Outline
namespace Go.Proofs.Ytcgfbdleapjigaa.fieldw
open Go.RowKit Go.Proofs.Ytcgfbdleapjigaa.fieldp

theorem size_list (s : ByteArray) : s.data.toList.length = s.size := by simp
theorem take_snoc (s : ByteArray) (k : Nat) (h : k < s.size) : s.data.toList.take (k + 1) = s.data.toList.take k ++ [s[k]] := by
  rw [List.take_succ_eq_append_getElem (by simpa using h)]; rfl
theorem drop_cons (s : ByteArray) (k : Nat) (h : k < s.size) : s.data.toList.drop k = s[k] :: s.data.toList.drop (k + 1) := by
  rw [List.drop_eq_getElem_cons (by simpa using h)]; rfl
theorem split_at (s : ByteArray) (k : Nat) : s.data.toList = s.data.toList.take k ++ s.data.toList.drop k := (List.take_append_drop k _).symm

theorem index_none (s : ByteArray) (c : UInt8) (w : World) (h : Lib.indexByte s.data.toList c = -1) :
    Calls Try.prog 51 #[.string s, .int .u8 (c.toNat : Int)] w fun e w' => e = .returned (.int .i64 (-1)) ∧ w = w' := by
  refine (Try.strings_IndexByte s c.toNat w).mono ?_
  rintro e w' ⟨rfl, rfl⟩
  refine ⟨?_, rfl⟩
  rw [show ((c.toNat : Int)).toNat.toUInt8 = c by simp, h]
theorem index_some (s : ByteArray) (c : UInt8) (n : Nat) (w : World) (h : Lib.indexByte s.data.toList c = (n : Int)) :
    Calls Try.prog 51 #[.string s, .int .u8 (c.toNat : Int)] w fun e w' => e = .returned (.int .i64 (n : Int)) ∧ w = w' := by
  refine (Try.strings_IndexByte s c.toNat w).mono ?_
  rintro e w' ⟨rfl, rfl⟩
  refine ⟨?_, rfl⟩
  rw [show ((c.toNat : Int)).toNat.toUInt8 = c by simp, h]
theorem byteCells_snoc (l : List UInt8) (c : UInt8) : Lib.byteCells (l ++ [c]) = Lib.byteCells l ++ [.int .u8 (c.toNat : Int)] := by simp [Lib.byteCells]

def ret2 (l : Option (List UInt8)) (w : World) (e : Ending) (w' : World) : Prop := e = .returned (.tuple #[.string ⟨(l.getD []).toArray⟩, .bool l.isSome]) ∧ Below w.heap.size w w'

set_option maxHeartbeats 1000000 in
theorem turned_any (s fr tt : ByteArray) (w : World) (hs : s.size ≤ 100000000) (hft : fr.size ≤ tt.size) :
    Calls Try.prog 59 #[.string s, .string fr, .string tt] w (ret2 (turnL fr.data.toList tt.data.toList s.data.toList) w) := by
  have HF := Lib.hid (Lib.fresh_isBuilder 84 5 w)
  go_enter Try.func59, Try.ntmps59
  go_wp2_with fail
  go_loopw [13] (fun i wr => ∃ (k : Nat) (l : List UInt8), k ≤ s.size ∧ i = .int .i64 k ∧ turnL fr.data.toList tt.data.toList (s.data.toList.take k) = some l ∧ Lib.IsBuilder 84 5 w.heap.size w.heap.size (Lib.byteCells l) wr ∧ Below w.heap.size w wr) (fun i _ => s.size - (intOf i).toNat)
  case atStart => exact ⟨0, [], Nat.zero_le _, rfl, rfl, HF.out, (Below.refl _ _).alloc (Nat.le_refl _) _⟩
  case round =>
    obtain ⟨k, l, hk, rfl, hl, hb, hB⟩ := hrel
    have HL := Lib.hid hl
    have HBd := Lib.hid hb
    have HB := Lib.hid hB
    clear hl hb hB
    by_cases hlt : k < s.size
    · have hsp := split_at s k
      rw [drop_cons s k hlt] at hsp
      by_cases hidx : Lib.indexByte fr.data.toList s[k] = -1
      · have HI := Lib.hid (index_none fr s[k] wr hidx)
        have hfin : turnL fr.data.toList tt.data.toList s.data.toList = none := by
          rw [hsp, show s.data.toList.take k ++ s[k] :: s.data.toList.drop (k + 1) = (s.data.toList.take k ++ [s[k]]) ++ s.data.toList.drop (k + 1) by simp]
          exact turnL_none_of_prefix _ _ _ _ (turnL_snoc_none _ _ _ _ hidx)
        have HFin := Lib.hid hfin
        clear hidx hfin hsp
        go_wp2_with (go_at_call 51; refine (HI.out).mono ?_; rintro e w' ⟨rfl, rfl⟩)
        go_ret2
        exact ⟨by rw [HFin.out]; rfl, HB.out⟩
      · obtain ⟨n, hn⟩ : ∃ n : Nat, Lib.indexByte fr.data.toList s[k] = (n : Int) := by
          have := Lib.indexByte_ge fr.data.toList s[k]
          exact ⟨(Lib.indexByte fr.data.toList s[k]).toNat, by omega⟩
        have hnl : n < tt.size := by
          have := (Lib.indexByte_some hn).1
          have h1 := (List.getElem?_eq_some_iff.1 this).1
          rw [size_list] at h1
          omega
        have hnx : turnL fr.data.toList tt.data.toList (s.data.toList.take (k + 1)) = some (l ++ [tt[n]]) := by
          rw [take_snoc s k hlt, turnL_snoc _ _ _ _ _ n HL.out hn]
          congr 3
          rw [List.getD_eq_getElem?_getD, List.getElem?_eq_getElem (by simpa using hnl)]
          rfl
        have hll := turnL_length _ _ _ _ HL.out
        rw [List.length_take, size_list] at hll
        have hlen : (Lib.byteCells l).length + 1 ≤ 140737488355328 := by simp [Lib.byteCells]; omega
        have HI := Lib.hid (index_some fr s[k] n wr hn)
        have HW := Lib.hid (Try.Builder_WriteByte w.heap.size w.heap.size (Lib.byteCells l) (tt[n].toNat : Int) wr HBd.out hlen HB.out.size)
        have HN := Lib.hid hnx
        clear hidx hn hsp hlen hll hnx
        go_wp2_with (first | (go_at_call 51; refine (HI.out).mono ?_; rintro e w' ⟨rfl, rfl⟩) | (go_at_call 72; refine (HW.out).mono ?_; rintro e w2 ⟨rfl, hb2, hB2⟩; have HB2 := Lib.hid hB2; have Hb2 := Lib.hid hb2; clear hB2 hb2))
        go_roundw
        case rel => exact ⟨k + 1, _, by omega, by go_num, HN.out, by rw [byteCells_snoc]; exact Or.inr Hb2.out, HB.out.trans HB2.out⟩
        case measure => simp [intOf]; omega
    · have hke : s.data.toList.take k = s.data.toList := List.take_of_length_le (by rw [size_list]; omega)
      have hfin : turnL fr.data.toList tt.data.toList s.data.toList = some l := by rw [← hke]; exact HL.out
      have HFin := Lib.hid hfin
      have HS := Lib.hid (Try.Builder_String_any w.heap.size w.heap.size l wr HBd.out HB.out.size)
      clear hke hfin
      go_wp2_with (go_at_call 57; refine (HS.out).mono ?_; rintro e w2 ⟨rfl, hB2⟩; have HB2 := Lib.hid hB2; clear hB2)
      go_ret2
      exact ⟨by rw [HFin.out]; rfl, HB.out.trans HB2.out⟩
end Go.Proofs.Ytcgfbdleapjigaa.fieldw
