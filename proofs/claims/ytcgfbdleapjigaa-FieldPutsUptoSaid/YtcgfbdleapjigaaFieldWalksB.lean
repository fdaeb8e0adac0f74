/- Walks of layer 4's inner functions: unpack, pack. Conditions: as each theorem says. -/
import Derived.Test.YtcgfbdleapjigaaFieldWalks
import Derived.StillTailTactics
import Derived.Laws.BitsAllLaws
import Derived.Laws.BitsLemmas
namespace Go.Proofs.Ytcgfbdleapjigaa.fieldw
open Go.RowKit Go.Proofs.Ytcgfbdleapjigaa.fieldp

set_option maxHeartbeats 1000000 in
theorem unpack_any (s : ByteArray) (w : World) (hs : s.size ≤ 100000000) :
    Calls Try.prog 65 #[.string s] w fun e w' => e = .returned (.string ⟨(unpackL s.data.toList).toArray⟩) ∧ Below w.heap.size w w' := by
  have HF := Lib.hid (Lib.fresh_isBuilder 84 5 w)
  go_enter Try.func65, Try.ntmps65
  go_wp2_with fail
  go_loopw [7] (fun i wr => ∃ (k : Nat), k ≤ s.size ∧ i = .int .i64 k ∧ Lib.IsBuilder 84 5 w.heap.size w.heap.size (Lib.byteCells (unpackL (s.data.toList.take k))) wr ∧ Below w.heap.size w wr) (fun i _ => s.size - (intOf i).toNat)
  case atStart => exact ⟨0, Nat.zero_le _, rfl, HF.out, (Below.refl _ _).alloc (Nat.le_refl _) _⟩
  case round =>
    obtain ⟨k, hk, rfl, hb, hB⟩ := hrel
    have HBd := Lib.hid hb
    have HB := Lib.hid hB
    clear hb hB
    by_cases hlt : k < s.size
    · have h256 := s[k].toNat_lt
      have hl1 : (Lib.byteCells (unpackL (s.data.toList.take k))).length + 2 ≤ 140737488355328 := by
        have : (Lib.byteCells (unpackL (s.data.toList.take k))).length = 2 * (s.data.toList.take k).length := by rw [← unpackL_length]; simp [Lib.byteCells]
        rw [this, List.length_take, size_list]; omega
      have hn : unpackL (s.data.toList.take (k + 1)) = unpackL (s.data.toList.take k) ++ [hexd (s[k].toNat / 16)] ++ [hexd (s[k].toNat % 16)] := by rw [take_snoc s k hlt, unpackL_snoc]
      have HN := Lib.hid hn
      clear hn
      go_wp2_with fail
      refine (Try.Builder_WriteByte w.heap.size w.heap.size _ _ wr HBd.out (by omega) HB.out.size).mono ?_
      rintro e w2 ⟨rfl, hb2, hB2⟩
      have HB2 := Lib.hid (HB.out.trans hB2)
      have Hb2 := Lib.hid hb2
      clear hB2 hb2
      go_wp2_with fail
      refine (Try.Builder_WriteByte w.heap.size w.heap.size _ _ w2 (Or.inr Hb2.out) (by simp only [List.length_append, List.length_cons, List.length_nil]; omega) HB2.out.size).mono ?_
      rintro e w3 ⟨rfl, hb3, hB3⟩
      have HB3 := Lib.hid (HB2.out.trans hB3)
      have Hb3 := Lib.hid hb3
      clear hB3 hb3
      go_wp2_with fail
      go_roundw
      case rel => exact ⟨k + 1, by omega, by go_num, by rw [HN.out, byteCells_snoc, byteCells_snoc, ← hexd_at _ (by show _ < 16; omega), ← hexd_at _ (by show _ < 16; omega)]; exact Or.inr Hb3.out, HB3.out⟩
      case measure => simp [intOf]; omega
    · have hke : s.data.toList.take k = s.data.toList := List.take_of_length_le (by rw [size_list]; omega)
      have hb := HBd.out
      rw [hke] at hb
      have HS := Lib.hid (Try.Builder_String_any w.heap.size w.heap.size _ wr hb HB.out.size)
      clear hke hb
      go_wp2_with (go_at_call 57; refine (HS.out).mono ?_; rintro e w2 ⟨rfl, hB2⟩; have HB2 := Lib.hid hB2; clear hB2)
      go_ret
      exact ⟨rfl, HB.out.trans HB2.out⟩

theorem hex_index (c : UInt8) (w : World) (h : isHex c) :
    Calls Try.prog 51 #[.string ⟨#[48, 49, 50, 51, 52, 53, 54, 55, 56, 57, 97, 98, 99, 100, 101, 102]⟩, .int .u8 (c.toNat : Int)] w fun e w' => e = .returned (.int .i64 (hv c : Int)) ∧ w' = w :=
  (index_some ⟨#[48, 49, 50, 51, 52, 53, 54, 55, 56, 57, 97, 98, 99, 100, 101, 102]⟩ c (hv c) w (hv_index h)).mono fun _ _ h => ⟨h.1, h.2.symm⟩

theorem ofInt_i64 (a : Nat) (ha : a < 9223372036854775808) : (BitVec.ofInt 64 (a : Int)).toNat = a := by
  rw [BitVec.ofInt_natCast, BitVec.toNat_ofNat]; exact Nat.mod_eq_of_lt (by omega)
theorem i64_or_nat (a b : Nat) (ha : a < 9223372036854775808) (hb : b < 9223372036854775808) : bits .or .i64 (a : Int) (b : Int) = ((a ||| b : Nat) : Int) := by
  have hx : a ||| b < 2 ^ 63 := Nat.or_lt_two_pow (by omega) (by omega)
  show IntKind.i64.wrap ((BitVec.ofInt 64 (a : Int) ||| BitVec.ofInt 64 (b : Int)).toNat : Int) = _
  rw [BitVec.toNat_or, ofInt_i64 a ha, ofInt_i64 b hb, IntKind.wrap_i64]
  omega
theorem two_digits (a b : Nat) (ha : a < 16) (hb : b < 16) : bits .or .i64 ((a : Int) * 16) (b : Int) % 256 = (((16 * a + b).toUInt8.toNat : Nat) : Int) := by
  have h : ∀ a : Fin 16, ∀ b : Fin 16, (a.val * 16 ||| b.val) = 16 * a.val + b.val := by decide
  rw [show (a : Int) * 16 = ((a * 16 : Nat) : Int) by omega, i64_or_nat _ _ (by omega) (by omega), h ⟨a, ha⟩ ⟨b, hb⟩]
  simp only [UInt8.toNat_ofNat', Nat.toUInt8]
  omega

theorem pack_case (s : ByteArray) : ∃ t : ByteArray, t.data.toList = evened s.data.toList ∧ ((((s.size : Int) % 2 : Int) == 1) = true ∧ ((⟨#[48]⟩ : ByteArray) ++ s) = t ∨ (((s.size : Int) % 2 : Int) == 1) = false ∧ t = s) := by
  by_cases h : s.size % 2 = 1
  · exact ⟨_, by simp [evened, h], .inl ⟨by rw [beq_iff_eq]; omega, rfl⟩⟩
  · exact ⟨s, by simp [evened, h], .inr ⟨by rw [beq_eq_false_iff_ne]; omega, rfl⟩⟩
theorem evened_hex {l : List UInt8} (h : ∀ c ∈ l, isHex c) : ∀ c ∈ evened l, isHex c := by
  unfold evened
  split
  · intro c hc
    rcases List.mem_cons.1 hc with rfl | hc
    · show Lib.indexByte hexL 48 ≠ -1
      decide
    · exact h c hc
  · exact h
theorem take_snoc2 (s : ByteArray) (k : Nat) (h : k + 1 < s.size) : s.data.toList.take (k + 2) = s.data.toList.take k ++ [s[k], s[k + 1]] := by
  rw [take_snoc s (k + 1) h, take_snoc s k (by omega)]; simp
theorem evened_size (l : List UInt8) : (evened l).length ≤ l.length + 1 := by
  unfold evened; split <;> simp

set_option maxHeartbeats 1000000 in
set_option maxRecDepth 100000 in
theorem pack_any (s : ByteArray) (w : World) (hs : s.size ≤ 100000000) (hx : ∀ c ∈ s.data.toList, isHex c) :
    Calls Try.prog 62 #[.string s] w fun e w' => e = .returned (.string ⟨(packL s.data.toList).toArray⟩) ∧ Below w.heap.size w w' := by
  have HF := Lib.hid (Lib.fresh_isBuilder 84 5 w)
  obtain ⟨t, ht, hcase⟩ := pack_case s
  have htx := evened_hex hx
  rw [← ht] at htx
  have hts : t.size ≤ 100000001 := by
    have := evened_size s.data.toList
    rw [← ht, size_list, size_list] at this
    omega
  have hte : t.size % 2 = 0 := by
    have := evened_even s.data.toList
    rw [← ht, size_list] at this
    exact this
  have hpk : packL s.data.toList = packE t.data.toList := by unfold packL; rw [ht]
  have HP := Lib.hid hpk
  have HX := Lib.hid htx
  clear ht htx hpk hx
  rcases hcase with ⟨h1, heq⟩ | ⟨h1, rfl⟩
  all_goals
    go_enter Try.func62, Try.ntmps62
    go_wp2_with fail
    try clear heq
    clear h1
    go_loopw [4] (fun i wr => ∃ (k : Nat), k ≤ t.size ∧ k % 2 = 0 ∧ i = .int .i64 k ∧ Lib.IsBuilder 84 5 w.heap.size w.heap.size (Lib.byteCells (packE (t.data.toList.take k))) wr ∧ Below w.heap.size w wr) (fun i _ => t.size - (intOf i).toNat)
    case atStart => exact ⟨0, Nat.zero_le _, rfl, rfl, HF.out, (Below.refl _ _).alloc (Nat.le_refl _) _⟩
    case round =>
      obtain ⟨k, hk, hk2, rfl, hb, hB⟩ := hrel
      have HBd := Lib.hid hb
      have HB := Lib.hid hB
      clear hb hB
      by_cases hlt : k < t.size
      · have hlt1 : k + 1 < t.size := by omega
        have x1 := HX.out t[k] (by simp [ByteArray.getElem_eq_getElem_data])
        have x2 := HX.out t[k + 1] (by simp [ByteArray.getElem_eq_getElem_data])
        have v1 := hv_lt x1
        have v2 := hv_lt x2
        have C1 := Lib.hid (fun w => hex_index t[k] w x1)
        have C2 := Lib.hid (fun w => hex_index t[k + 1] w x2)
        clear x1 x2
        go_wp2_with fail
        have w1 : IntKind.i64.wrap ((k : Int) + 1) = (k : Int) + 1 := IntWalk.i64_in _ (by omega)
        have w2 : (0 : Int) ≤ (k : Int) + 1 := by omega
        have w3 : ((k : Int) + 1).toNat = k + 1 := by omega
        have w4 : (k : Int) + 1 < (t.size : Int) := by omega
        have w5 : IntKind.i64.wrap ((hv t[k] : Int) * 16) = (hv t[k] : Int) * 16 := IntWalk.i64_in _ (by omega)
        refine wp_region_still_tail 12 (by kernel_rfl) (by kernel_rfl) ?_
        simp only [List.take_succ_cons, List.take_zero, List.drop_succ_cons, List.drop_zero]
        repeat still_step
        still_call (C1.out _)
        repeat still_step
        still_call (C2.out _)
        repeat still_step
        refine wpStill_nil ?_
        change wpList _ _ _ _ _ wr.drew
        go_wp2_with fail
        rw [two_digits _ _ v1 v2]
        have hlen : (Lib.byteCells (packE (t.data.toList.take k))).length + 1 ≤ 140737488355328 := by
          have h1 : (Lib.byteCells (packE (t.data.toList.take k))).length = (packE (t.data.toList.take k)).length := by simp [Lib.byteCells]
          have h2 : (t.data.toList.take k).length = 2 * (k / 2) := by rw [List.length_take, size_list]; omega
          rw [h1, packE_length _ _ h2]; omega
        have hn : packE (t.data.toList.take (k + 2)) = packE (t.data.toList.take k) ++ [(16 * hv t[k] + hv t[k + 1]).toUInt8] := by
          rw [take_snoc2 t k hlt1]
          exact packE_snoc _ _ (k / 2) _ (by rw [List.length_take, size_list]; omega)
        have HN := Lib.hid hn
        clear hn
        refine (Try.Builder_WriteByte w.heap.size w.heap.size _ _ wr.drew HBd.out hlen HB.out.size).mono ?_
        rintro e w2 ⟨rfl, hb2, hB2⟩
        have HB2 := Lib.hid (HB.out.drew.trans hB2)
        have Hb2 := Lib.hid hb2
        clear hB2 hb2
        go_wp2_with fail
        go_roundw
        case rel => exact ⟨k + 2, by omega, by omega, by go_num, by rw [HN.out, byteCells_snoc]; exact Or.inr Hb2.out, HB2.out⟩
        case measure => simp [intOf]; omega
      · have hke : t.data.toList.take k = t.data.toList := List.take_of_length_le (by rw [size_list]; omega)
        have hb := HBd.out
        rw [hke] at hb
        have HS := Lib.hid (Try.Builder_String_any w.heap.size w.heap.size _ wr hb HB.out.size)
        clear hke hb
        go_wp2_with (go_at_call 57; refine (HS.out).mono ?_; rintro e w2 ⟨rfl, hB2⟩; have HB2 := Lib.hid hB2; clear hB2)
        go_ret
        exact ⟨by rw [HP.out]; rfl, HB.out.trans HB2.out⟩
end Go.Proofs.Ytcgfbdleapjigaa.fieldw
