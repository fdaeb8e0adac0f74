/- Layer 5: a number in hexadecimal digits (strconv.FormatUint at base 16), a number in decimal ones. Layer 5: what Encode writes, in plain words; the small parts of encode. Layer 5: check of a message of an unknown type, or of too many fields. Layer 5: what Encode writes, in plain words. Layer 5: hexadecimal digits; steps of encode. Layer 5: encode. Layer 5: Encode. Conditions: as each theorem says. -/
import Derived.Test.YtommklkihjmgcaaGreatDoorFieldLite
import Derived.Test.YtommklkihjmgcaaGreatDoorMsgY
import Derived.Test.YtommklkihjmgcaaGreatDoorShelf
import Derived.Laws.BitsAllLaws
import Derived.Laws.BitsLemmas
import Derived.Laws.Bits64b
import Derived.Test.YtommklkihjmgcaaGreatDoorFieldY
import Derived.Test.YtommklkihjmgcaaGreatDoorMsgZ
namespace Go.Proofs.YtommklkihjmgcaaGreatDoor.msgw
open Go.RowKit
open Go.Proofs.YtommklkihjmgcaaGreatDoor.msgp
open Go.Proofs.YtommklkihjmgcaaGreatDoor.buf
open Go.Proofs.YtommklkihjmgcaaGreatDoor.fieldp
open Go.Proofs.YtommklkihjmgcaaGreatDoor.fieldw
/-- A number's hexadecimal digits, with fuel. -/
def hexF : Nat → Nat → List UInt8
 | 0, _ => []
 | f + 1, u => if u < 16 then [hexd u] else hexF f (u / 16) ++ [hexd (u % 16)]
def hexN (u : Nat) : List UInt8 := hexF 16 u
/-- Bytes in a block of one's own, of any type. -/
def RowAt (w : World) (b : Nat) (t : TypeId) (l : List UInt8) : Prop := w.heap[b]? = some (.cells (l.map fun c => Value.int .u8 (c.toNat : Int)).toArray t (0, 0))
theorem RowAt.cell {w : World} {b : Nat} {t : TypeId} {l : List UInt8} (h : RowAt w b t l) (j : Nat) (hj : j < l.length) : w.cell? ⟨b, j, none⟩ = some (.int .u8 (l[j].toNat : Int)) := by
 rw [cells_at h j]; simp [hj]
theorem RowAt.frozen {w : World} {b : Nat} {t : TypeId} {l : List UInt8} (h : RowAt w b t l) (j : Nat) : w.frozen? ⟨b, j, none⟩ = false := frozen_at h j
theorem RowAt.set {w : World} {b : Nat} {t : TypeId} {l : List UInt8} (h : RowAt w b t l) (j : Nat) (x : UInt8) : RowAt (w.setCell ⟨b, j, none⟩ (.int .u8 (x.toNat : Int))) b t (l.set j x) := by
 unfold RowAt at *
 unfold World.setCell
 simp [h, Array.getElem?_modify, List.map_set]
theorem RowAt.back {w : World} {b : Nat} {t : TypeId} {l : List UInt8} (h : RowAt w b t l) (o cap : Nat) (r : List UInt8) (hr : l.drop o = r) :
  (convert 33 9 (.slice (some ⟨b, o, none⟩) r.length cap)).run Tryz.prog w = .ok (.string ⟨r.toArray⟩) w := by
 subst hr
 refine run_convert_bytes_back w _ _ 5 ⟨b, o, none⟩ cap (l.drop o) Tryz.underlying33 Tryz.underlying5 Tryz.underlying9 ?_
 intro j hj
 have hj' : o + j < l.length := by simp at hj; omega
 have := h.cell (o + j) hj'
 rw [show (⟨b, o, none⟩ : Addr).add j = ⟨b, o + j, none⟩ from by unfold Addr.add; split <;> simp_all, this]
 simp
/-- The table by which trailing noughts are counted: at the place of 16. -/
def Zeros4 (w : World) : Prop := ∀ j, j < 64 → w.cell? ⟨7, j, none⟩ = some (.int .u8 (([0, 1, 56, 2, 57, 49, 28, 3, 61, 58, 42, 50, 38, 29, 17, 4, 62, 47, 59, 36, 45, 43, 51, 22, 53, 39, 33, 30, 24, 18, 12, 5, 63, 55, 48, 27, 60, 41, 37, 16, 46, 35, 44, 21, 52, 32, 23, 11, 54, 26, 40, 15, 34, 20, 31, 10, 25, 14, 19, 9, 13, 8, 7, 6] : List Nat).getD j 0))
theorem Zeros4.below {w w' : World} (h : Zeros4 w) (hb : Below w.heap.size w w') : Zeros4 w' := fun j hj => hb.keptCell (h j hj)
theorem tz64_16 {w : World} (h : Zeros4 w) : Calls Tryz.prog 139 #[.int .u64 16] w fun e w' => e = .returned (.int .i64 4) ∧ w' = w := by
 have hc := h 15 (by decide)
 have hc' : w.cell? ⟨7, 15, none⟩ = some (.int .u8 4) := hc
 clear h hc
 go_enter Tryz.func139, Tryz.ntmps139
 have key : IntKind.u64.wrap (bits BinOp.and IntKind.u64 16 (IntKind.u64.wrap (-16)) * 285870213051353865) / 288230376151711744 = 15 := by decide +kernel
 go_wp2_with (simp only [key])
 go_ret
 exact ⟨rfl, rfl⟩
theorem pow2_16 {w : World} : Calls Tryz.prog 131 #[.int .i64 16] w fun e w' => e = .returned (.bool true) ∧ w' = w := by
 go_enter Tryz.func131, Tryz.ntmps131
 have key : (bits BinOp.and IntKind.i64 16 15 == 0) = true := by decide +kernel
 go_wp2_with (simp only [key])
 go_ret
 exact ⟨rfl, rfl⟩
theorem tz_16 {w : World} (h : Zeros4 w) : Calls Tryz.prog 132 #[.int .u64 16] w fun e w' => e = .returned (.int .i64 4) ∧ w' = w := by
 have H := Lib.hid h
 clear h
 go_enter Tryz.func132, Tryz.ntmps132
 go_wp2_with fail
 refine (tz64_16 H.out).mono ?_
 rintro e w' ⟨rfl, rfl⟩
 go_wp2_with fail
 go_ret
 exact ⟨rfl, rfl⟩
theorem hexF_step {f v : Nat} (h : 16 ≤ v) : hexF (f + 1) v = hexF f (v / 16) ++ [hexd (v % 16)] := by
 rw [hexF, if_neg (by omega)]
theorem hexF_last {f v : Nat} (h : v < 16) : hexF (f + 1) v = [hexd v] := by
 rw [hexF, if_pos h]
theorem hex36 (n : Nat) (h : n < 16) : ∀ hk : n < (⟨#[48, 49, 50, 51, 52, 53, 54, 55, 56, 57, 97, 98, 99, 100, 101, 102, 103, 104, 105, 106, 107, 108, 109, 110, 111, 112, 113, 114, 115, 116, 117, 118, 119, 120, 121, 122]⟩ : ByteArray).size, (⟨#[48, 49, 50, 51, 52, 53, 54, 55, 56, 57, 97, 98, 99, 100, 101, 102, 103, 104, 105, 106, 107, 108, 109, 110, 111, 112, 113, 114, 115, 116, 117, 118, 119, 120, 121, 122]⟩ : ByteArray)[n]'hk = hexd n := by
 have : ∀ k : Fin 16, ∀ hk : k.1 < (⟨#[48, 49, 50, 51, 52, 53, 54, 55, 56, 57, 97, 98, 99, 100, 101, 102, 103, 104, 105, 106, 107, 108, 109, 110, 111, 112, 113, 114, 115, 116, 117, 118, 119, 120, 121, 122]⟩ : ByteArray).size, (⟨#[48, 49, 50, 51, 52, 53, 54, 55, 56, 57, 97, 98, 99, 100, 101, 102, 103, 104, 105, 106, 107, 108, 109, 110, 111, 112, 113, 114, 115, 116, 117, 118, 119, 120, 121, 122]⟩ : ByteArray)[k.1]'hk = hexd k.1 := by decide +kernel
 exact this ⟨n, h⟩
theorem row_put {k : Nat} {low : List UInt8} (hk : low.length = k) (hk2 : k < 65) (x : UInt8) : (List.replicate (65 - k) (0 : UInt8) ++ low).set (64 - k) x = List.replicate (65 - (k + 1)) 0 ++ (x :: low) := by
 have e : 65 - k = (65 - (k + 1)) + 1 := by omega
 rw [e, List.replicate_succ', List.append_assoc, List.set_append_right _ _ (by simp; try omega)]
 simp only [List.length_replicate]
 rw [show 64 - k - (65 - (k + 1)) = 0 by omega]
 rfl
set_option maxHeartbeats 2000000 in
set_option maxRecDepth 100000 in
theorem format_16 {w : World} (hZ : Zeros4 w) (u : Nat) (hu : u < 18446744073709551616) :
  Calls Tryz.prog 109 #[.slice none 0 0, .int .u64 u, .int .i64 16, .bool false, .bool false] w fun e w' => e = .returned (.tuple #[.slice none 0 0, .string ⟨(hexN u).toArray⟩]) ∧ Below w.heap.size w w' := by
 obtain ⟨z, ez⟩ : ∃ z : Array Value, z = ((List.replicate 65 (0 : UInt8)).map fun c => Value.int .u8 (c.toNat : Int)).toArray := ⟨_, rfl⟩
 have hz : (zeroValue 200).run Tryz.prog w = .ok (.agg z) w := by
  rw [ez]
  exact (zero_of_info (P := Tryz.prog) (t := 200) (n := 65) (by kernel_rfl)).1 w
 obtain ⟨w0, e0⟩ : ∃ W, w.alloc (.cells z 200) = W := ⟨_, rfl⟩
 have b0 : Below w.heap.size w w0 := by rw [← e0]; exact (Below.refl _ _).alloc (Nat.le_refl _) _
 have k0 : RowAt w0 w.heap.size 200 (List.replicate 65 (0 : UInt8)) := by rw [← e0, ez]; exact heap_alloc_last _ _
 have HZ := Lib.hid (hZ.below b0)
 have HB := Lib.hid b0
 have K0 := Lib.hid k0
 have E0 := Lib.hid e0
 have HU := Lib.hid hu
 clear hZ b0 k0 e0 ez hu
 go_enter Tryz.func109, Tryz.ntmps109
 go_wp2_with fail
 rw [E0.out]
 refine pow2_16.mono ?_
 rintro e w1 ⟨rfl, rfl⟩
 go_wp2_with fail
 refine (tz_16 HZ.out).mono ?_
 rintro e w1 ⟨rfl, rfl⟩
 go_wp2_with fail
 obtain ⟨W0, eW0⟩ : ∃ n, w.heap.size = n := ⟨_, rfl⟩
 rw [eW0] at K0 ⊢
 have HW0 := Lib.hid (Nat.le_of_eq eW0)
 clear E0 hz
 go_loopw [1, 13] (fun x i wr => ∃ (k v : Nat) (low : List UInt8), k < 16 ∧ low.length = k ∧ v < 16 ^ (16 - k) ∧ x = .int .u64 v ∧ i = .int .i64 (65 - (k : Int)) ∧ hexN u = hexF (16 - k) v ++ low ∧ RowAt wr W0 200 (List.replicate (65 - k) 0 ++ low) ∧ Below w.heap.size w wr) (fun x _ _ => (intOf x).toNat)
 case atStart => exact ⟨0, u, [], by decide, rfl, HU.out, rfl, rfl, by rw [List.append_nil]; rfl, by simpa using K0.out, HB.out⟩
 case round =>
  obtain ⟨k, v, low, hk, hlow, hv, rfl, rfl, he, hrow, hbw⟩ := hrel
  have hv64 : v < 18446744073709551616 := Nat.lt_of_lt_of_le hv (Nat.pow_le_pow_right (by decide) (by omega) : 16 ^ (16 - k) ≤ 16 ^ 16)
  have hlen : (List.replicate (65 - k) (0 : UInt8) ++ low).length = 65 := by simp [hlow]; omega
  have hcell := hrow.cell (64 - k) (by omega)
  obtain ⟨old, hold⟩ : ∃ old : Int, wr.cell? ⟨W0, 64 - k, none⟩ = some (.int .u8 old) := ⟨_, hcell⟩
  have hfro := hrow.frozen (64 - k)
  obtain ⟨q, hq⟩ : ∃ q : Nat, q = 64 - k := ⟨_, rfl⟩
  rw [← hq] at hold hfro
  have hq1 : q < 65 := by omega
  have hi : (65 : Int) - (k : Int) = (q : Int) + 1 := by omega
  rw [hi]
  have HROW := Lib.hid hrow
  have HLOW := Lib.hid hlow
  have HE := Lib.hid he
  have HBW := Lib.hid hbw
  have HVP := Lib.hid hv
  have HQ := Lib.hid hq
  have HK := Lib.hid hk
  have HV := Lib.hid hv64
  clear hcell hrow hlow he hbw hlen hv hq hi hk K0 HB HU eW0
  by_cases h16 : 16 ≤ v
  ·have hand : bits BinOp.and IntKind.u64 (v : Int) 15 = ((v % 16 : Nat) : Int) := by
    have := bits_and_u64_nat v 15 hv64 (by decide)
    rw [show ((15 : Nat) : Int) = 15 from rfl] at this
    rw [this, show (15 : Nat) = 2 ^ 4 - 1 from rfl, Nat.and_two_pow_sub_one_eq_mod]
   obtain ⟨d, hd⟩ : ∃ d, v % 16 = d := ⟨_, rfl⟩
   rw [hd] at hand
   have hd16 : d < 16 := by omega
   have hd0 : (0 : Int) ≤ (d : Int) := by omega
   have hd36 : (d : Int) < 36 := by omega
   have hd36' : d < (⟨#[48, 49, 50, 51, 52, 53, 54, 55, 56, 57, 97, 98, 99, 100, 101, 102, 103, 104, 105, 106, 107, 108, 109, 110, 111, 112, 113, 114, 115, 116, 117, 118, 119, 120, 121, 122]⟩ : ByteArray).size := by show d < 36; omega
   have HX := Lib.hid (hex36 d hd16 hd36')
   go_wp2_with (simp only [hand])
   rw [HX.out]
   have hk14 : k + 1 < 16 := by
    by_cases h : k = 15
    ·exfalso; subst h; have := HVP.out; omega
    ·have := HK.out; omega
   have e1 : 16 - k = (16 - (k + 1)) + 1 := by omega
   refine ⟨⟨k + 1, v / 16, hexd d :: low, hk14, by simp [HLOW.out], ?_, by simp, ?_, ?_, ?_, ?_⟩, ?_⟩
   ·have := HVP.out
    rw [e1, Nat.pow_succ] at this
    omega
   ·rw [HQ.out]; congr 1; omega
   ·rw [HE.out, e1, hexF_step h16, hd]; simp
   ·rw [← row_put HLOW.out (by omega) (hexd d), ← HQ.out]; exact HROW.out.set q (hexd d)
   ·exact HBW.out.setCell HW0.out _
   ·simp only [intOf]; omega
  ·have hd36' : v < (⟨#[48, 49, 50, 51, 52, 53, 54, 55, 56, 57, 97, 98, 99, 100, 101, 102, 103, 104, 105, 106, 107, 108, 109, 110, 111, 112, 113, 114, 115, 116, 117, 118, 119, 120, 121, 122]⟩ : ByteArray).size := by show v < 36; omega
   have HX := Lib.hid (hex36 v (by omega) hd36')
   have hal : Tryz.prog.arrayLen 200 = 65 := by simp [Program.arrayLen, Tryz.underlying200]
   have hsl : ∀ W, (Instr.sliceAt 200 (.pointer (some ⟨W0, 0, none⟩)) (some (.int .i64 (q : Int))) none none).run Tryz.prog W = .ok (.slice (some ⟨W0, q, none⟩) (65 - q) (65 - q)) W := fun W => by
    rw [run_sliceAt_array_l W 200 ⟨W0, 0, none⟩ (by simp [Program.arrayLen, Program.elem, Tryz.underlying200]) .i64 (q : Int) (by omega) (by rw [hal]; omega)]
    go_simp
    omega
   clear hal
   have hcv := (HROW.out.set q (hexd v)).back q (65 - q) (hexd v :: low) (by rw [HQ.out, row_put HLOW.out (by have := HK.out; omega)]; exact List.drop_left' (by rw [List.length_replicate]; omega))
   have hlen2 : (hexd v :: low).length = 65 - q := by have := HK.out; have := HQ.out; have := HLOW.out; simp; omega
   rw [hlen2] at hcv
   go_wp2_with (simp only [hsl])
   rw [HX.out, hcv]
   go_wp2_with fail
   go_ret2
   have e1 : 16 - k = (15 - k) + 1 := by have := HK.out; omega
   exact ⟨by rw [HE.out, e1, hexF_last (by omega)]; rfl, HBW.out.setCell HW0.out _⟩
set_option maxRecDepth 100000 in
theorem formatU_16 {w : World} (hZ : Zeros4 w) (u : Nat) (hu : u < 18446744073709551616) :
  Calls Tryz.prog 52 #[.int .u64 u, .int .i64 16] w fun e w' => e = .returned (.string ⟨(hexN u).toArray⟩) ∧ Below w.heap.size w w' := by
 have HF := Lib.hid (format_16 hZ u hu)
 clear hZ hu
 have H2 : Calls Tryz.prog 75 #[.int .u64 u, .int .i64 16] w fun e w' => e = .returned (.string ⟨(hexN u).toArray⟩) ∧ Below w.heap.size w w' := by
  go_enter Tryz.func75, Tryz.ntmps75
  go_wp2_with fail
  refine HF.out.mono ?_
  rintro e w1 ⟨rfl, b1⟩
  have HB := Lib.hid b1
  clear b1
  go_wp2_with fail
  go_ret
  exact ⟨rfl, HB.out⟩
 have HF2 := Lib.hid H2
 clear H2
 go_enter Tryz.func52, Tryz.ntmps52
 go_wp2_with fail
 refine HF2.out.mono ?_
 rintro e w1 ⟨rfl, b1⟩
 have HB := Lib.hid b1
 clear b1
 go_wp2_with fail
 go_ret
 exact ⟨rfl, HB.out⟩
end Go.Proofs.YtommklkihjmgcaaGreatDoor.msgw
namespace Go.Proofs.YtommklkihjmgcaaGreatDoor.msgw
open Go.RowKit
open Go.Proofs.YtommklkihjmgcaaGreatDoor.msgp
open Go.Proofs.YtommklkihjmgcaaGreatDoor.buf
open Go.Proofs.YtommklkihjmgcaaGreatDoor.fieldp
open Go.Proofs.YtommklkihjmgcaaGreatDoor.fieldw
open Go.Proofs.YtommklkihjmgcaaGreatDoorW.PrintWords
theorem tabIs_below {P : Program} {w w' : World} {name : String} {k : IntKind} {zs : List Int} (h : Lib.TabIs P w name k zs) (hb : Below w.heap.size w w') : Lib.TabIs P w' name k zs := by
 unfold Lib.TabIs World.var? at *
 cases hg : P.globalNamed name with
 | none => simp [hg] at h
 | some g =>
  rw [hg] at h
  simp only [Option.bind_some] at h ⊢
  by_cases hl : g < w.heap.size
  ·rw [hb.block g hl]; exact h
  ·rw [Array.getElem?_eq_none (by omega)] at h
   exact absurd h (by simp)
/-- All tables that Encode and Decode read. -/
structure Tabs5 (w : World) : Prop where
 tabs : Tabs w
 zeros : Zeros4 w
 pow : Lib.TabIs Tryz.prog w "internal/strconv.uint64pow10" .u64 Lib.pow10Tab
theorem Tabs5.below {w w' : World} (h : Tabs5 w) (hb : Below w.heap.size w w') : Tabs5 w' := ⟨h.tabs.below hb, h.zeros.below hb, tabIs_below h.pow hb⟩
theorem itoa_any {w : World} (h : Tabs5 w) (n : Int) (h0 : 0 ≤ n) (h1 : n ≤ 1000000) : Calls Tryz.prog 51 #[.int .i64 n] w fun e w' => e = .returned (.string ⟨(Lib.itoa n).toArray⟩) ∧ Below w.heap.size w w' := by
 refine (Tryz.strconv_Itoa n (by omega) (by omega) w h.pow).mono ?_
 rintro e w' ⟨rfl, k, os, rfl⟩
 refine ⟨rfl, ?_⟩
 exact ⟨rfl, rfl, rfl, by simp [«Sort».grow, World.drewN], fun q hq => by show (w.heap ++ os)[q]? = _; rw [Array.getElem?_append_left hq]⟩
def digForm (code : Int) (s : ByteArray) : Value := .agg #[.int .i64 1, .int .i64 s.size, .int .i64 code]
/-- digits, appended to nothing. -/
theorem digitsPut_any {w : World} (code ver out : Int) (s : ByteArray) (hs : s.size ≤ 100000000) :
  Calls Tryz.prog 50 #[.agg #[.int .i64 code, .int .u8 ver, .int .i64 out], .slice none 0 0, .string s] w fun e w' => ∃ v, e = .returned v ∧ Kd.R (Kd.int .u8) 5 w' w.heap.size (fun _ => True) v (putR [] 1 s.size code s).1 ∧ Below w.heap.size w w' := by
 obtain ⟨w0, e0⟩ : ∃ W, w.alloc (.cells #[.int .i64 code, .int .u8 ver, .int .i64 out] 56) = W := ⟨_, rfl⟩
 have b0 : Below w.heap.size w w0 := by rw [← e0]; exact (Below.refl _ _).alloc (Nat.le_refl _) _
 have k0 : w0.heap[w.heap.size]? = some (.cells #[.int .i64 code, .int .u8 ver, .int .i64 out] 56 (0, 0)) := by rw [← e0]; exact heap_alloc_last _ _
 have c0 : w0.cell? ⟨w.heap.size, 0, none⟩ = some (.int .i64 code) := cells_at k0 0
 have HP := Lib.hid (fun W => put_any 1 s.size code s none 0 [] W hs (by simp) (Kd.C_nil _ _) (Nat.le_refl _))
 have HB := Lib.hid b0
 have E0 := Lib.hid e0
 rw [← e0] at c0
 clear b0 k0 e0
 go_enter Tryz.func50, Tryz.ntmps50
 go_wp2_with fail
 rw [E0.out]
 refine (HP.out _).mono ?_
 rintro e w1 ⟨v, rfl, hv, b1⟩
 have HV := Lib.hid hv
 have HB1 := Lib.hid (HB.out.trans (b1.mono HB.out.size))
 clear b1 hv
 go_wp2_with fail
 go_ret
 exact ⟨v, rfl, Kd.R_lower HV.out HB.out.size, HB1.out⟩
set_option maxRecDepth 100000 in
theorem bits_any {w : World} (code ver out : Int) :
  Calls Tryz.prog 53 #[.agg #[.int .i64 code, .int .u8 ver, .int .i64 out]] w fun e w' => e = .returned (.agg #[.int .i64 4, .int .i64 8, .int .i64 code]) ∧ Below w.heap.size w w' := by
 obtain ⟨w0, e0⟩ : ∃ W, (w.alloc (.cells #[.int .i64 code, .int .u8 ver, .int .i64 out] 56)).alloc (.cells #[.int .i64 0, .int .i64 0, .int .i64 0] 46) = W := ⟨_, rfl⟩
 have b0 : Below w.heap.size w w0 := by rw [← e0]; exact ((Below.refl _ _).alloc (Nat.le_refl _) _).alloc (by simp) _
 have k0 : w0.heap[w.heap.size]? = some (.cells #[.int .i64 code, .int .u8 ver, .int .i64 out] 56 (0, 0)) := by rw [← e0, Below.heap_alloc _ _ _ (by simp)]; exact heap_alloc_last _ _
 have k1 : w0.heap[w.heap.size + 1]? = some (.cells #[.int .i64 0, .int .i64 0, .int .i64 0] 46 (0, 0)) := by rw [← e0]; exact box_row2 _ _ _ _ _
 have c0 : w0.cell? ⟨w.heap.size, 0, none⟩ = some (.int .i64 code) := cells_at k0 0
 have hst := store_form k1 rfl 4 8 code
 have K1 := Lib.hid k1
 have HB := Lib.hid b0
 subst e0
 clear b0 k0 k1
 go_enter Tryz.func53, Tryz.ntmps53
 go_wp2_with (refine wpList_store_at rfl 46 (.tmp 2) (.tmp 5) rfl ⟨w.heap.size + 1, 0, none⟩ rfl _ rfl hst ?_)
 refine bodyPost_ret (results_cell_row rfl _ _ (w.heap.size + 1) _ #[.int .i64 4, .int .i64 8, .int .i64 code] (0, 0) _ rfl (setRow_block K1.out) Tryz.underlying46 rfl info55s) rfl ?_
 exact ⟨rfl, HB.out.os, HB.out.tape, HB.out.output, by simp; omega, fun q hq => (setRow_other _ _ q _ (by omega)).trans (HB.out.block q hq)⟩
end Go.Proofs.YtommklkihjmgcaaGreatDoor.msgw
namespace Go.Proofs.YtommklkihjmgcaaGreatDoor.msgw
open Go.RowKit
open Go.Proofs.YtommklkihjmgcaaGreatDoor.msgp
open Go.Proofs.YtommklkihjmgcaaGreatDoor.buf
open Go.Proofs.YtommklkihjmgcaaGreatDoor.fieldp
open Go.Proofs.YtommklkihjmgcaaGreatDoor.fieldw
set_option maxHeartbeats 2000000 in
set_option maxRecDepth 100000 in
theorem check_type {w : World} {v : Value} {F : Flds} (h : FsAt w v F) (hT : Tabs w) (ty : Int) (hty : typesL.contains ty = false) :
  Calls Tryz.prog 40 #[.agg #[.int .i64 ty, v]] w fun e w' => ∃ v', e = .returned v' ∧ ErrAt w' v' (some (.plain 51)) ∧ Below w.heap.size w w' := by
 obtain ⟨p, c, rfl⟩ := h.shape
 obtain ⟨w0, e0⟩ : ∃ W, w.alloc (.cells #[.int .i64 ty, .slice p F.length c] 24) = W := ⟨_, rfl⟩
 have b0 : Below w.heap.size w w0 := by rw [← e0]; exact (Below.refl _ _).alloc (Nat.le_refl _) _
 have k0 : w0.heap[w.heap.size]? = some (.cells #[.int .i64 ty, .slice p F.length c] 24 (0, 0)) := by rw [← e0]; exact heap_alloc_last _ _
 have c0 : w0.cell? ⟨w.heap.size, 0, none⟩ = some (.int .i64 ty) := cells_at k0 0
 have c1 : w0.cell? ⟨w.heap.size, 1, none⟩ = some (.slice p F.length c) := cells_at k0 1
 have HC := Lib.hid (contains_types ((hT.below b0).below (show Below w0.heap.size w0 w0.drew from ⟨rfl, rfl, rfl, Nat.le_refl _, fun _ _ => rfl⟩)) ty)
 have H := Lib.hid (h.below b0)
 have HT0 := Lib.hid (hT.below b0)
 have HB0 := Lib.hid b0
 have K0 := Lib.hid k0
 have HLT := Lib.hid (show w.heap.size < w0.heap.size by rw [← e0]; simp)
 have E0 := Lib.hid e0
 rw [hty] at HC
 clear hty
 clear h hT b0 k0 e0
 go_enter Tryz.func40, Tryz.ntmps40
 go_wp2_with fail
 rw [E0.out]
 refine wp_region_held_drew (S := (fun W => W.cell? ⟨w.heap.size, 0, none⟩ = some (.int .i64 ty))) (by kernel_rfl) (c0) (fun hHeld => ?_)
 refine wpAnyH_take (i := 0) (oi := { dst := some 10, op := Op.slice 105 (Operand.global 1) none none none, type := 76, pos := _, after := _, guard := _ }) (v := ?_) rfl (by kernel_rfl) (by kernel_rfl) (by kernel_rfl) (fun _ _ _ h => h) (Or.inl ⟨by rfl, ?hyctx01⟩) (by assumption) ?restctx01
 case hyctx01 => (intro w hSw; (try dsimp only at hSw); go_simp; try with_reducible rfl)
 try simp only [Act.put, List.setIfInBounds_toArray, List.set_cons_zero, List.set_cons_succ]
 refine wpAnyH_take (i := 1) (oi := { dst := some 11, op := Op.fieldAddr 24 (Operand.tmp 1) 0, type := 0, pos := _, after := _, guard := _ }) (v := ?_) rfl (by kernel_rfl) (by kernel_rfl) (by kernel_rfl) (fun _ _ _ h => h) (Or.inl ⟨by rfl, ?hyctx04⟩) (by assumption) ?restctx04
 case hyctx04 => (intro w hSw; (try dsimp only at hSw); go_simp; try with_reducible rfl)
 try simp only [Act.put, List.setIfInBounds_toArray, List.set_cons_zero, List.set_cons_succ]
 refine wpAnyH_take (i := 2) (oi := { dst := some 12, op := Op.load 3 (Operand.tmp 11), type := 3, pos := _, after := _, guard := _ }) (v := ?_) rfl (by kernel_rfl) (by kernel_rfl) (by kernel_rfl) (fun _ _ _ h => h) (Or.inl ⟨by rfl, ?hyctx07⟩) (by assumption) ?restctx07
 case hyctx07 => (intro w hSw; (try dsimp only at hSw); go_simp; try with_reducible rfl)
 try simp only [Act.put, List.setIfInBounds_toArray, List.set_cons_zero, List.set_cons_succ]
 refine wpAnyH_ready (rs := [3]) (by kernel_rfl) (by simp) (AllReadyH.cons (o := { dst := some 13, op := Op.call { callee := Callee.value (Operand.func 59), args := #[Operand.tmp 10, Operand.tmp 12], argTypes := #[76, 3] }, type := 4, pos := _, after := _, guard := _ }) rfl (fun K hK => ?_) AllReadyH.nil)
 go_simp
 refine HC.out.mono ?_
 rintro e w1 ⟨rfl, e1⟩
 refine hK.out _ _ ((by rw [e1]; exact c0)) (fun hHeld => ?_)
 clear hK K
 try simp only [Act.put, List.setIfInBounds_toArray, List.set_cons_zero, List.set_cons_succ]
 refine wpAnyH_take (i := 4) (oi := { dst := some 14, op := Op.unOp UnOp.not 4 (Operand.tmp 13), type := 4, pos := _, after := _, guard := _ }) (v := ?_) rfl (by kernel_rfl) (by kernel_rfl) (by kernel_rfl) (fun _ _ _ h => h) (Or.inl ⟨by rfl, ?hyctx017⟩) (by assumption) ?restctx017
 case hyctx017 => (intro w hSw; (try dsimp only at hSw); go_simp; try with_reducible rfl)
 try simp only [Act.put, List.setIfInBounds_toArray, List.set_cons_zero, List.set_cons_succ]
 refine wpAnyH_take (i := 5) (oi := { dst := some 9, op := Op.assign (Operand.tmp 14), type := 4, pos := _, after := _, guard := _ }) (v := ?_) rfl (by kernel_rfl) (by kernel_rfl) (by kernel_rfl) (fun _ _ _ h => h) (Or.inl ⟨by rfl, ?hyctx020⟩) (by assumption) ?restctx020
 case hyctx020 => (intro w hSw; (try dsimp only at hSw); go_simp; try with_reducible rfl)
 try simp only [Act.put, List.setIfInBounds_toArray, List.set_cons_zero, List.set_cons_succ]
 refine wpAnyH_done (by kernel_rfl) ?_ _
 clear hHeld
 rw [e1]
 obtain ⟨w2, e2⟩ : ∃ W, w0.drew = W := ⟨_, rfl⟩
 have b2 : Below w0.heap.size w0 w2 := by rw [← e2]; exact ⟨rfl, rfl, rfl, Nat.le_refl _, fun _ _ => rfl⟩
 rw [e2]
 clear e1 e2
 replace c1 : w2.cell? ⟨w.heap.size, 1, none⟩ = some (.slice p F.length c) := (World.cell?_of_block (a := ⟨w.heap.size, 1, none⟩) (b2.block w.heap.size HLT.out)).trans c1
 have HB2 := Lib.hid (HB0.out.trans (b2.mono HB0.out.size))
 clear c0 HC b2
 go_wp2_with fail
 go_ret
 exact ⟨_, rfl, rfl, HB2.out⟩
set_option maxHeartbeats 2000000 in
set_option maxRecDepth 100000 in
theorem check_long {w : World} {v : Value} {F : Flds} (h : FsAt w v F) (hT : Tabs w) (ty : Int) (hty : typesL.contains ty = true) (hl : 24 < F.length) :
  Calls Tryz.prog 40 #[.agg #[.int .i64 ty, v]] w fun e w' => ∃ v', e = .returned v' ∧ ErrAt w' v' (some (.plain 5)) ∧ Below w.heap.size w w' := by
 obtain ⟨p, c, rfl⟩ := h.shape
 obtain ⟨w0, e0⟩ : ∃ W, w.alloc (.cells #[.int .i64 ty, .slice p F.length c] 24) = W := ⟨_, rfl⟩
 have b0 : Below w.heap.size w w0 := by rw [← e0]; exact (Below.refl _ _).alloc (Nat.le_refl _) _
 have k0 : w0.heap[w.heap.size]? = some (.cells #[.int .i64 ty, .slice p F.length c] 24 (0, 0)) := by rw [← e0]; exact heap_alloc_last _ _
 have c0 : w0.cell? ⟨w.heap.size, 0, none⟩ = some (.int .i64 ty) := cells_at k0 0
 have c1 : w0.cell? ⟨w.heap.size, 1, none⟩ = some (.slice p F.length c) := cells_at k0 1
 have HC := Lib.hid (contains_types ((hT.below b0).below (show Below w0.heap.size w0 w0.drew from ⟨rfl, rfl, rfl, Nat.le_refl _, fun _ _ => rfl⟩)) ty)
 have H := Lib.hid (h.below b0)
 have HT0 := Lib.hid (hT.below b0)
 have HB0 := Lib.hid b0
 have K0 := Lib.hid k0
 have HLT := Lib.hid (show w.heap.size < w0.heap.size by rw [← e0]; simp)
 have E0 := Lib.hid e0
 rw [hty] at HC
 have n24 : (24 : Int) < F.length := by omega
 clear hty hl
 clear h hT b0 k0 e0
 go_enter Tryz.func40, Tryz.ntmps40
 go_wp2_with fail
 rw [E0.out]
 refine wp_region_held_drew (S := (fun W => W.cell? ⟨w.heap.size, 0, none⟩ = some (.int .i64 ty))) (by kernel_rfl) (c0) (fun hHeld => ?_)
 refine wpAnyH_take (i := 0) (oi := { dst := some 10, op := Op.slice 105 (Operand.global 1) none none none, type := 76, pos := _, after := _, guard := _ }) (v := ?_) rfl (by kernel_rfl) (by kernel_rfl) (by kernel_rfl) (fun _ _ _ h => h) (Or.inl ⟨by rfl, ?hyclx11⟩) (by assumption) ?restclx11
 case hyclx11 => (intro w hSw; (try dsimp only at hSw); go_simp; try with_reducible rfl)
 try simp only [Act.put, List.setIfInBounds_toArray, List.set_cons_zero, List.set_cons_succ]
 refine wpAnyH_take (i := 1) (oi := { dst := some 11, op := Op.fieldAddr 24 (Operand.tmp 1) 0, type := 0, pos := _, after := _, guard := _ }) (v := ?_) rfl (by kernel_rfl) (by kernel_rfl) (by kernel_rfl) (fun _ _ _ h => h) (Or.inl ⟨by rfl, ?hyclx14⟩) (by assumption) ?restclx14
 case hyclx14 => (intro w hSw; (try dsimp only at hSw); go_simp; try with_reducible rfl)
 try simp only [Act.put, List.setIfInBounds_toArray, List.set_cons_zero, List.set_cons_succ]
 refine wpAnyH_take (i := 2) (oi := { dst := some 12, op := Op.load 3 (Operand.tmp 11), type := 3, pos := _, after := _, guard := _ }) (v := ?_) rfl (by kernel_rfl) (by kernel_rfl) (by kernel_rfl) (fun _ _ _ h => h) (Or.inl ⟨by rfl, ?hyclx17⟩) (by assumption) ?restclx17
 case hyclx17 => (intro w hSw; (try dsimp only at hSw); go_simp; try with_reducible rfl)
 try simp only [Act.put, List.setIfInBounds_toArray, List.set_cons_zero, List.set_cons_succ]
 refine wpAnyH_ready (rs := [3]) (by kernel_rfl) (by simp) (AllReadyH.cons (o := { dst := some 13, op := Op.call { callee := Callee.value (Operand.func 59), args := #[Operand.tmp 10, Operand.tmp 12], argTypes := #[76, 3] }, type := 4, pos := _, after := _, guard := _ }) rfl (fun K hK => ?_) AllReadyH.nil)
 go_simp
 refine HC.out.mono ?_
 rintro e w1 ⟨rfl, e1⟩
 refine hK.out _ _ ((by rw [e1]; exact c0)) (fun hHeld => ?_)
 clear hK K
 try simp only [Act.put, List.setIfInBounds_toArray, List.set_cons_zero, List.set_cons_succ]
 refine wpAnyH_take (i := 4) (oi := { dst := some 14, op := Op.unOp UnOp.not 4 (Operand.tmp 13), type := 4, pos := _, after := _, guard := _ }) (v := ?_) rfl (by kernel_rfl) (by kernel_rfl) (by kernel_rfl) (fun _ _ _ h => h) (Or.inl ⟨by rfl, ?hyclx117⟩) (by assumption) ?restclx117
 case hyclx117 => (intro w hSw; (try dsimp only at hSw); go_simp; try with_reducible rfl)
 try simp only [Act.put, List.setIfInBounds_toArray, List.set_cons_zero, List.set_cons_succ]
 refine wpAnyH_take (i := 5) (oi := { dst := some 9, op := Op.assign (Operand.tmp 14), type := 4, pos := _, after := _, guard := _ }) (v := ?_) rfl (by kernel_rfl) (by kernel_rfl) (by kernel_rfl) (fun _ _ _ h => h) (Or.inl ⟨by rfl, ?hyclx120⟩) (by assumption) ?restclx120
 case hyclx120 => (intro w hSw; (try dsimp only at hSw); go_simp; try with_reducible rfl)
 try simp only [Act.put, List.setIfInBounds_toArray, List.set_cons_zero, List.set_cons_succ]
 refine wpAnyH_done (by kernel_rfl) ?_ _
 clear hHeld
 rw [e1]
 obtain ⟨w2, e2⟩ : ∃ W, w0.drew = W := ⟨_, rfl⟩
 have b2 : Below w0.heap.size w0 w2 := by rw [← e2]; exact ⟨rfl, rfl, rfl, Nat.le_refl _, fun _ _ => rfl⟩
 rw [e2]
 clear e1 e2
 replace c1 : w2.cell? ⟨w.heap.size, 1, none⟩ = some (.slice p F.length c) := (World.cell?_of_block (a := ⟨w.heap.size, 1, none⟩) (b2.block w.heap.size HLT.out)).trans c1
 have HB2 := Lib.hid (HB0.out.trans (b2.mono HB0.out.size))
 clear c0 HC b2
 go_wp2_with fail
 go_ret
 exact ⟨_, rfl, rfl, HB2.out⟩
/-- check of any message. -/
theorem check_all {w : World} {v : Value} {F : Flds} (h : FsAt w v F) (hT : Tabs w) (ty : Int) (hS : ∀ x ∈ F, x.2.size ≤ 100000000) :
  Calls Tryz.prog 40 #[.agg #[.int .i64 ty, v]] w fun e w' => ∃ v', e = .returned v' ∧ ErrAt w' v' (checkM ty F) ∧ Below w.heap.size w w' := by
 cases ht : typesL.contains ty with
 | false => simp only [checkM, ht, if_true]; exact check_type h hT ty ht
 | true =>
  by_cases hl : 24 < F.length
  ·simp only [checkM, ht, Bool.true_eq_false, if_false, if_pos hl]; exact check_long h hT ty ht hl
  ·simp only [checkM, ht, Bool.true_eq_false, if_false, if_neg hl]; exact check_in h hT ty ht (by omega) hS
end Go.Proofs.YtommklkihjmgcaaGreatDoor.msgw
namespace Go.Proofs.YtommklkihjmgcaaGreatDoor.msgw
open Go.RowKit
open Go.Proofs.YtommklkihjmgcaaGreatDoor.msgp
open Go.Proofs.YtommklkihjmgcaaGreatDoor.buf
open Go.Proofs.YtommklkihjmgcaaGreatDoor.fieldp
open Go.Proofs.YtommklkihjmgcaaGreatDoor.fieldw
open Go.Proofs.YtommklkihjmgcaaGreatDoorW.PrintWords
open Go.Proofs.YtommklkihjmgcaaGreatDoor.fieldl
/-- A row of bytes of one's own, in blocks from lo on. -/
def Txt (w : World) (lo : Nat) (v : Value) (l : List UInt8) : Prop := Kd.R (Kd.int .u8) 5 w lo (fun k => lo ≤ k) v (nums8 l)
theorem Txt.below {w w' : World} {lo : Nat} {v : Value} {l : List UInt8} (h : Txt w lo v l) (hb : Below w.heap.size w w') : Txt w' lo v l := Kd.R_below h hb
theorem Txt.set {w : World} {lo : Nat} {v : Value} {l : List UInt8} (h : Txt w lo v l) {p : Addr} (hp : p.block < lo) (u : Value) : Txt (w.setCell p u) lo v l := Kd.R_far h (fun k hk => by have : lo ≤ k := hk; omega) u
theorem Txt.of {w : World} {base lo : Nat} {v : Value} {l : List UInt8} (h : Kd.R (Kd.int .u8) 5 w base (fun _ => True) v (nums8 l)) (hlo : lo ≤ base) : Txt w lo v l := by
 have h1 := Kd.R_tight rfl h
 have h2 : ∀ k, some k = v.ownBlock → lo ≤ k := fun k hk => Nat.le_trans hlo (Kd.R_base h k hk.symm)
 exact Kd.R_lower (Kd.R_mono h1 h2) hlo
theorem Txt.of_lower {w : World} {lo lo' : Nat} {v : Value} {l : List UInt8} (h : Txt w lo v l) (hl : lo' ≤ lo) : Txt w lo' v l := Kd.R_lower (Kd.R_mono h (fun _ hk => Nat.le_trans hl hk)) hl
theorem Txt.nil (w : World) (lo : Nat) : Txt w lo (.slice none 0 0) [] := Kd.R_nil _ _ _ _ _
theorem Txt.reads {w : World} {lo : Nat} {v : Value} {l : List UInt8} (h : Txt w lo v l) : ∃ A c, v = .slice A l.length c ∧ l.length ≤ c ∧ Kd.C (Kd.int .u8) w A l.length (nums8 l) := by
 obtain ⟨A, c, e, h1, h2⟩ := Kd.R_reads h
 have hl : (nums8 l).length = l.length := by simp [nums8]
 rw [hl] at e h1 h2
 exact ⟨A, c, e, h1, h2⟩
theorem nums8_append (a b : List UInt8) : nums8 (a ++ b) = nums8 a ++ nums8 b := by simp [nums8]
/-- Put, onto a text. -/
theorem put_txt {w : World} {lo : Nat} {v : Value} {l : List UInt8} (h : Txt w lo v l) (hlo : lo ≤ w.heap.size) (k n c : Int) (s : ByteArray) (hs : s.size ≤ 100000000) (hl : l.length ≤ 100000000) (hck : checkR k n c s.data.toList = 0) :
  Calls Tryz.prog 49 #[v, .agg #[.int .i64 k, .int .i64 n, .int .i64 c], .string s] w fun e w' => ∃ v', e = .returned (.tuple #[v', .int .i64 0]) ∧ Txt w' lo v' (l ++ putBytes k c s.data.toList) ∧ Below w.heap.size w w' := by
 obtain ⟨A, cc, rfl, h1, h2⟩ := h.reads
 have hn : (nums8 l).length = l.length := by simp [nums8]
 have := put_any k n c s A cc (nums8 l) w hs (by rw [hn]; exact hl) (by rw [hn]; exact h2) (by rw [hn]; exact h1)
 rw [hn, putR_of _ hck, ← nums8_append] at this
 refine this.mono ?_
 rintro e w' ⟨v', rfl, hv, hb⟩
 exact ⟨v', rfl, Txt.of hv hlo, hb⟩
/-- A field's text as a dialect writes it: some leave out the first digits of an amount. -/
def cutT (out : Int) (x : Fld) : ByteArray := if x.1 = 4 then x.2.extract out.toNat x.2.size else x.2
/-- An amount that is too great for a dialect. -/
def badA (out : Int) (x : Fld) : Bool := decide (x.1 = 4 ∧ 0 < out ∧ x.2.extract 0 out.toNat ≠ ⟨#[48, 48]⟩)
def putF (code out : Int) (x : Fld) : List UInt8 := match formF x.1 out with
 | none => []
 | some (k, _) => putBytes k code (cutT out x).data.toList
def bodyM (code out : Int) (F : Flds) : List UInt8 := F.flatMap (putF code out)
/-- A field's bit in the two halves of the map. -/
def addBit (m : Nat × Nat) (no : Int) : Nat × Nat := if no ≤ 64 then (m.1 ||| 2 ^ (64 - no).toNat, m.2) else (m.1, m.2 ||| 2 ^ (128 - no).toNat)
def mapsM (F : Flds) : Nat × Nat := F.foldl (fun m x => addBit m x.1) (0, 0)
def topBit (m : Nat × Nat) : Nat := if m.2 = 0 then m.1 else m.1 ||| 9223372036854775808
def hex16 (n : Nat) : List UInt8 := List.replicate (16 - (hexN n).length) 48 ++ hexN n
def headM (code ver ty : Int) : List UInt8 := putBytes 1 code (UInt8.ofNat ver.toNat :: Lib.itoa ty)
def mapB (code : Int) (m : Nat × Nat) : List UInt8 := putBytes 4 code (hex16 (topBit m)) ++ (if m.2 = 0 then [] else putBytes 4 code (hex16 m.2))
/-- What is wrong with writing a message. -/
def encE (out ty : Int) (F : Flds) : Option Er := match checkM ty F with
 | some e => some e
 | none => if F.any (badA out) then some (.field 4 41) else none
/-- What is written. -/
def encB (code ver out ty : Int) (F : Flds) : List UInt8 := match encE out ty F with
 | some _ => []
 | none => headM code ver ty ++ mapB code (mapsM F) ++ bodyM code out F
theorem checkM_none {ty : Int} {F : Flds} (h : checkM ty F = none) : typesL.contains ty = true ∧ F.length ≤ 24 ∧ errF 0 F = none := by
 unfold checkM at h
 cases ht : typesL.contains ty with
 | false => rw [ht] at h; simp at h
 | true =>
  rw [ht] at h
  by_cases hl : 24 < F.length
  ·simp [hl] at h
  ·simp only [Bool.true_eq_false, if_false, if_neg hl] at h
   exact ⟨rfl, by omega, h⟩
theorem errF_cons' {last : Int} {x : Fld} {r : Flds} (h : errF last (x :: r) = none) : ∃ k s, formF x.1 0 = some (k, s) ∧ last < x.1 ∧ checkR k s 1 x.2.data.toList = 0 ∧ errF x.1 r = none := by
 unfold errF at h
 cases hf : formF x.1 0 with
 | none => rw [hf] at h; simp at h
 | some ks =>
  obtain ⟨k, s⟩ := ks
  rw [hf] at h
  simp only at h
  by_cases h1 : x.1 ≤ last
  ·simp [h1] at h
  ·rw [if_neg h1] at h
   by_cases h2 : checkR k s 1 x.2.data.toList = 0
   ·rw [if_pos h2] at h
    exact ⟨k, s, rfl, by omega, h2, h⟩
   ·simp [h2] at h
theorem errF_all : ∀ {F : Flds} {last : Int}, errF last F = none → ∀ x ∈ F, last < x.1 ∧ ∃ k s, formF x.1 0 = some (k, s) ∧ checkR k s 1 x.2.data.toList = 0
 | [], _, _, x, hx => by cases hx
 | y :: r, last, h, x, hx => by
  obtain ⟨k, s, h1, h2, h3, h4⟩ := errF_cons' h
  rcases List.mem_cons.1 hx with rfl | hx
  ·exact ⟨h2, k, s, h1, h3⟩
  ·obtain ⟨h5, h6⟩ := errF_all h4 x hx
   exact ⟨by omega, h6⟩
theorem formF_nos {no out : Int} {ks : Int × Int} (h : formF no out = some ks) : no ∈ fieldsL.map (·.1) := by
 unfold formF at h
 split at h
 ·rename_i hl
  have : fieldsL[fieldAt no].1 = no := by
   have h2 : fieldsL.findIdx (fun x : Shp => decide (x.1 = no)) < fieldsL.length := hl
   have h3 := List.findIdx_getElem (w := h2)
   simpa [fieldAt] using h3
  exact List.mem_map.2 ⟨fieldsL[fieldAt no], List.getElem_mem _, this⟩
 ·cases h
theorem nos_range {no : Int} (h : no ∈ fieldsL.map (·.1)) : 2 ≤ no ∧ no ≤ 97 := by
 revert no; decide
theorem checkR_code {k n c : Int} {l : List UInt8} (hc : 1 ≤ c ∧ c ≤ 3) (h : checkR k n 1 l = 0) : checkR k n c l = 0 := by
 have hm : mayB k n c = mayB k n 1 := by obtain ⟨h1, h2⟩ := hc; simp [mayB, h1, h2]
 unfold checkR at h ⊢
 rw [hm]
 exact h
theorem formF_out {no out : Int} (hno : no ≠ 4) : formF no out = formF no 0 := by simp [formF, hno]
theorem form4 (out : Int) : formF 4 out = some (1, 12 - out) := by
 have h : fieldAt 4 = 2 := by decide
 simp [formF, h, fieldsL]
/-- What is right with a field is right as a dialect writes it. -/
theorem put_ok {code out : Int} (hc : 1 ≤ code ∧ code ≤ 3) (ho : out = 0 ∨ out = 2) {x : Fld} {k s : Int} (hf : formF x.1 0 = some (k, s)) (hck : checkR k s 1 x.2.data.toList = 0) :
  ∃ k' s', formF x.1 out = some (k', s') ∧ checkR k' s' code (cutT out x).data.toList = 0 := by
 by_cases h4 : x.1 = 4
 ·rw [h4, form4] at hf ⊢
  simp only [Option.some.injEq, Prod.mk.injEq] at hf
  obtain ⟨rfl, rfl⟩ := hf
  refine ⟨1, 12 - out, rfl, ?_⟩
  rw [cutT, if_pos h4]
  rcases ho with rfl | rfl
  ·have : (x.2.extract (0 : Int).toNat x.2.size) = x.2 := by simp
   rw [this]
   exact checkR_code hc hck
  ·have hr : rightB 1 12 x.2.data.toList = true := by
    cases hr : rightB 1 12 x.2.data.toList with
    | true => rfl
    | false => unfold checkR at hck; rw [show mayB 1 (12 - 0) 1 = true from by decide] at hck; rw [show (12 - 0 : Int) = 12 from rfl, hr] at hck; simp at hck
   obtain ⟨ha, hl⟩ := ofB_all (show ofB x.2.data.toList tenL 12 = true from hr)
   have hd : (x.2.extract (2 : Int).toNat x.2.size).data.toList = x.2.data.toList.drop 2 := by
    simp [ByteArray.data_extract, Array.toList_extract]; exact List.take_of_length_le (by simp)
   rw [hd]
   have hr2 : rightB 1 (12 - 2) (x.2.data.toList.drop 2) = true := by
    show ofB _ tenL 10 = true
    unfold ofB
    rw [Bool.and_eq_true]
    refine ⟨List.all_eq_true.2 fun c hc => List.all_eq_true.1 ha c (List.mem_of_mem_drop hc), by simp; simp at hl; omega⟩
   unfold checkR
   rw [hr2, show mayB 1 (12 - 2) code = true from by simp [mayB]; omega]
   rfl
 ·refine ⟨k, s, by rw [formF_out h4]; exact hf, ?_⟩
  rw [cutT, if_neg h4]
  exact checkR_code hc hck
end Go.Proofs.YtommklkihjmgcaaGreatDoor.msgw
namespace Go.Proofs.YtommklkihjmgcaaGreatDoor.msgw
open Go.RowKit
open Go.Proofs.YtommklkihjmgcaaGreatDoor.msgp
open Go.Proofs.YtommklkihjmgcaaGreatDoor.buf
open Go.Proofs.YtommklkihjmgcaaGreatDoor.fieldp
open Go.Proofs.YtommklkihjmgcaaGreatDoor.fieldw
open Go.Proofs.YtommklkihjmgcaaGreatDoorW.PrintWords
open Go.Proofs.YtommklkihjmgcaaGreatDoor.fieldl
theorem hexd_row (n : Nat) (h : n < 16) : inRow hexL (hexd n) = true := by
 have : ∀ i : Fin 16, inRow hexL (hexd i.1) = true := by decide
 exact this ⟨n, h⟩
theorem hexF_all : ∀ (f u : Nat), (hexF f u).all (inRow hexL) = true
 | 0, _ => rfl
 | f + 1, u => by
  rw [hexF]
  split
  ·rename_i h; simp [hexd_row u h]
  ·rw [List.all_append, hexF_all f]; simp [hexd_row (u % 16) (Nat.mod_lt _ (by decide))]
theorem hexF_len : ∀ (f u : Nat), (hexF f u).length ≤ f
 | 0, _ => Nat.le_refl 0
 | f + 1, u => by
  rw [hexF]
  split
  ·simp
  ·have := hexF_len f (u / 16); simp; omega
theorem hex16_len (n : Nat) : (hex16 n).length = 16 := by
 have := hexF_len 16 n
 unfold hex16 hexN
 simp
 omega
theorem hex16_all (n : Nat) : (hex16 n).all (inRow hexL) = true := by
 unfold hex16
 rw [List.all_append, hexN, hexF_all]
 simp only [Bool.and_true, List.all_eq_true]
 intro c hc
 rw [(List.mem_replicate.1 hc).2]
 decide
theorem hex16_ok {code : Int} (hc : 1 ≤ code ∧ code ≤ 3) (n : Nat) : checkR 4 8 code (hex16 n) = 0 := by
 have hr : rightB 4 8 (hex16 n) = true := by
  show ofB (hex16 n) hexL (2 * 8) = true
  unfold ofB
  rw [hex16_all, hex16_len]
  rfl
 unfold checkR
 rw [hr, show mayB 4 8 code = true from by obtain ⟨h1, h2⟩ := hc; simp [mayB, h1, h2]]
 rfl
theorem itoa_types {ty : Int} (h : typesL.contains ty = true) : 0 ≤ ty ∧ ty ≤ 1000000 ∧ (Lib.itoa ty).length = 3 ∧ (Lib.itoa ty).all (inRow tenL) = true := by
 have h2 : ty ∈ typesL := by simpa using h
 revert h2
 have : ∀ t ∈ typesL, 0 ≤ t ∧ t ≤ 1000000 ∧ (Lib.itoa t).length = 3 ∧ (Lib.itoa t).all (inRow tenL) = true := by decide +kernel
 exact this ty
theorem head_ok {code ver ty : Int} (hc : 1 ≤ code ∧ code ≤ 3) (hv : 48 ≤ ver ∧ ver ≤ 57) (h : typesL.contains ty = true) :
  checkR 1 4 code (UInt8.ofNat ver.toNat :: Lib.itoa ty) = 0 ∧ (UInt8.ofNat ver.toNat :: Lib.itoa ty).length = 4 := by
 obtain ⟨_, _, h3, h4⟩ := itoa_types h
 have hl : (UInt8.ofNat ver.toNat :: Lib.itoa ty).length = 4 := by rw [List.length_cons, h3]
 refine ⟨?_, hl⟩
 have hvr : inRow tenL (UInt8.ofNat ver.toNat) = true := by
  have : ∀ i : Fin 58, 48 ≤ i.1 → inRow tenL (UInt8.ofNat i.1) = true := by decide
  exact this ⟨ver.toNat, by omega⟩ (by show 48 ≤ ver.toNat; omega)
 have hr : rightB 1 4 (UInt8.ofNat ver.toNat :: Lib.itoa ty) = true := by
  show ofB _ tenL 4 = true
  unfold ofB
  rw [List.all_cons, hvr, h4, hl]
  rfl
 unfold checkR
 rw [hr, show mayB 1 4 code = true from by obtain ⟨h1, h2⟩ := hc; simp [mayB, h1, h2]]
 rfl
/-- The head: version and type. -/
theorem head_put {w : World} {code ver ty : Int} (out : Int) (hc : 1 ≤ code ∧ code ≤ 3) (hv : 48 ≤ ver ∧ ver ≤ 57) (h : typesL.contains ty = true) :
  Calls Tryz.prog 50 #[.agg #[.int .i64 code, .int .u8 ver, .int .i64 out], .slice none 0 0, .string ((⟨#[UInt8.ofNat ver.toNat]⟩ : ByteArray) ++ ⟨(Lib.itoa ty).toArray⟩)] w fun e w' => ∃ v, e = .returned v ∧ Txt w' w.heap.size v (headM code ver ty) ∧ Below w.heap.size w w' := by
 obtain ⟨hck, hl⟩ := head_ok hc hv h
 have hd : ((⟨#[UInt8.ofNat ver.toNat]⟩ : ByteArray) ++ ⟨(Lib.itoa ty).toArray⟩).data.toList = UInt8.ofNat ver.toNat :: Lib.itoa ty := by
  rw [ByteArray.data_append]; simp
 have hsz : ((⟨#[UInt8.ofNat ver.toNat]⟩ : ByteArray) ++ ⟨(Lib.itoa ty).toArray⟩).size = 4 := by rw [← size_list, hd]; exact hl
 have := digitsPut_any (w := w) code ver out _ (by rw [hsz]; decide : ((⟨#[UInt8.ofNat ver.toNat]⟩ : ByteArray) ++ ⟨(Lib.itoa ty).toArray⟩).size ≤ 100000000)
 rw [hsz, putR_of _ (by rw [hd]; exact hck), hd] at this
 refine this.mono ?_
 rintro e w' ⟨v, rfl, hR, hb⟩
 exact ⟨v, rfl, Txt.of hR (Nat.le_refl _), hb⟩
theorem rep_any {w : World} (L : Nat) (hL : L ≤ 16) : Calls Tryz.prog 54 #[.string ⟨#[48]⟩, .int .i64 (16 - (L : Int))] w fun e w' => e = .returned (.string ⟨(List.replicate (16 - L) 48).toArray⟩) ∧ Below w.heap.size w w' := by
 have h1 := Tryz.strings_Repeat ⟨#[48]⟩ (16 - L) w (by omega) (by show 1 * (16 - L) ≤ _; omega)
 have h2 : Lib.repeatL [48] (16 - L) = List.replicate (16 - L) 48 := by simpa using Lib.repeatL_replicate 48 1 (16 - L)
 have h3 : (16 : Int) - (L : Int) = ((16 - L : Nat) : Int) := by omega
 rw [h2] at h1
 rw [h3]
 exact h1
theorem put_hex {w : World} {lo : Nat} {v : Value} {l : List UInt8} (h : Txt w lo v l) (hlo : lo ≤ w.heap.size) {code : Int} (hc : 1 ≤ code ∧ code ≤ 3) (n : Nat) (hl : l.length ≤ 100000000) :
  Calls Tryz.prog 49 #[v, .agg #[.int .i64 4, .int .i64 8, .int .i64 code], .string ((⟨(List.replicate (16 - (hexN n).length) 48).toArray⟩ : ByteArray) ++ ⟨(hexN n).toArray⟩)] w fun e w' => ∃ v', e = .returned (.tuple #[v', .int .i64 0]) ∧ Txt w' lo v' (l ++ putBytes 4 code (hex16 n)) ∧ Below w.heap.size w w' := by
 have hd : ((⟨(List.replicate (16 - (hexN n).length) 48).toArray⟩ : ByteArray) ++ ⟨(hexN n).toArray⟩).data.toList = hex16 n := by
  rw [ByteArray.data_append]; simp [hex16]
 have := put_txt h hlo 4 8 code ((⟨(List.replicate (16 - (hexN n).length) 48).toArray⟩ : ByteArray) ++ ⟨(hexN n).toArray⟩) (by rw [← size_list, hd, hex16_len]; decide) hl (by rw [hd]; exact hex16_ok hc n)
 rw [hd] at this
 exact this
theorem hex16_bytes {code : Int} (hc : 1 ≤ code ∧ code ≤ 3) (n : Nat) : (putBytes 4 code (hex16 n)).length ≤ 1000 := bytes_small (fit_of (hex16_ok hc n))
/-- The map, half by half. -/
def preM (code : Int) (m : Nat × Nat) : Nat → List UInt8
 | 0 => []
 | 1 => putBytes 4 code (hex16 (topBit m))
 | _ => putBytes 4 code (hex16 (topBit m)) ++ (if m.2 = 0 then [] else putBytes 4 code (hex16 m.2))
theorem preM0 (code : Int) (m : Nat × Nat) : preM code m 0 = [] := rfl
theorem preM1 (code : Int) (m : Nat × Nat) : preM code m 1 = putBytes 4 code (hex16 (topBit m)) := rfl
theorem preM2 (code : Int) (m : Nat × Nat) : preM code m 2 = preM code m 1 ++ (if m.2 = 0 then [] else putBytes 4 code (hex16 m.2)) := rfl
theorem mapB_pre (code : Int) (m : Nat × Nat) : mapB code m = preM code m 2 := rfl
theorem head_small {code ver ty : Int} (hc : 1 ≤ code ∧ code ≤ 3) (hv : 48 ≤ ver ∧ ver ≤ 57) (h : typesL.contains ty = true) : (headM code ver ty).length ≤ 1000 := bytes_small (fit_of (head_ok hc hv h).1)
theorem or_top (n : Nat) (h : n < 18446744073709551616) : bits BinOp.or IntKind.u64 (n : Int) 9223372036854775808 = ((n ||| 9223372036854775808 : Nat) : Int) := by
 have h1 : (9223372036854775808 : Int) = ((9223372036854775808 : Nat) : Int) := rfl
 rw [h1]
 exact bits_or_u64_nat n 9223372036854775808 h (by decide)
theorem or_top_lt {n : Nat} (h : n < 18446744073709551616) : n ||| 9223372036854775808 < 18446744073709551616 := by
 have h2 : n ||| 9223372036854775808 < 2 ^ 64 := Nat.or_lt_two_pow (by omega) (by decide)
 omega
theorem idx_two (a b : Value) (W : World) : (Instr.index 85 (.agg #[a, b]) (.int .i64 0)).run Tryz.prog W = .ok a W ∧ (Instr.index 85 (.agg #[a, b]) (.int .i64 1)).run Tryz.prog W = .ok b W := by
 have h1 : Tryz.prog.underlying 85 = some (.array 2 84) := by kernel_rfl
 constructor
 ·simp [Instr.index, run_underlying h1, asIntOf, go_sem]
 ·simp [Instr.index, run_underlying h1, asIntOf, go_sem]
/-- What encode reads of its parameters. -/
def DM (W : World) (B : Nat) (code ver out ty : Int) : Prop := (W.cell? ⟨B, 0, none⟩ = some (.int .i64 code) ∧ W.cell? ⟨B, 1, none⟩ = some (.int .u8 ver) ∧ W.cell? ⟨B, 2, none⟩ = some (.int .i64 out)) ∧ W.cell? ⟨B + 1, 0, none⟩ = some (.int .i64 ty)
theorem DM.below {W W' : World} {B : Nat} {code ver out ty : Int} (h : DM W B code ver out ty) (hb : Below W.heap.size W W') : DM W' B code ver out ty :=
 ⟨⟨hb.keptCell h.1.1, hb.keptCell h.1.2.1, hb.keptCell h.1.2.2⟩, hb.keptCell h.2⟩
section
variable {w w' : World} {ops : Array Oper} {rest : List Oper} {o : Oper} {a : Act} {K : Act → World → Prop} {Q : Exit → Act → World → Prop} {E : Prop}
theorem exec_bs1 (x : Operand) (ho : o.op = .buildSlice 33 1 #[(0, x)]) (n : Int) (hx : a.eval x = .int .u8 n) :
  (execOp a.eval o).run Tryz.prog w = .ok (.value (.slice (some ⟨w.heap.size, 0, none⟩) 1 1)) (w.alloc (.cells #[.int .u8 n] 5)) := by
 obtain ⟨ie, h1, h2, h3, h4⟩ := info_parts (P := Tryz.prog) infoU8
 unfold execOp
 simp [ho, Instr.buildSlice, run_underlying Tryz.underlying33, sizeOf, typeInfo, h1, h3, newRow, Instr.fill, hx, Value.cells, show Array.range 1 = #[0] from by decide]
theorem step_bs1 (hgd : o.guard = none) (x : Operand) (ho : o.op = .buildSlice 33 1 #[(0, x)]) (n : Int) (hx : a.eval x = .int .u8 n) (h : ∀ e w', Below w.heap.size w w' → w'.heap[e]? = some (.cells #[.int .u8 n] 5 (0, 0)) → K (a.put o.dst (.slice (some ⟨e, 0, none⟩) 1 1)) w') :
  if Region.wanted o (yielded ops a.tmps) = true then Oper.wp Tryz.prog o a w K Q else E :=
 step_run hgd _ (exec_bs1 x ho n hx) (h _ _ ((Below.refl _ _).alloc (Nat.le_refl _) _) (heap_alloc_last _ _))
theorem step_conv (hgd : o.guard = none) (x : Operand) (ho : o.op = .convert 33 9 x) (e : Nat) (n : Int) (hn : 0 ≤ n ∧ n < 256) (hx : a.eval x = .slice (some ⟨e, 0, none⟩) 1 1) (hk : w.heap[e]? = some (.cells #[.int .u8 n] 5 (0, 0))) (h : K (a.put o.dst (.string ⟨#[UInt8.ofNat n.toNat]⟩)) w) :
  if Region.wanted o (yielded ops a.tmps) = true then Oper.wp Tryz.prog o a w K Q else E := by
 refine step_run hgd _ ?_ h
 have hr : RowAt w e 5 [UInt8.ofNat n.toNat] := by
  unfold RowAt
  rw [hk]
  simp only [List.map_cons, List.map_nil, UInt8.toNat_ofNat']
  rw [show ((n.toNat % 2 ^ 8 : Nat) : Int) = n by omega]
 have := hr.back 0 1 [UInt8.ofNat n.toNat] rfl
 unfold execOp
 simp only [ho, hx]
 rw [Sem.run_bind]
 rw [show ([UInt8.ofNat n.toNat] : List UInt8).length = 1 from rfl] at this
 rw [this]
 rfl
end
end Go.Proofs.YtommklkihjmgcaaGreatDoor.msgw
namespace Go.Proofs.YtommklkihjmgcaaGreatDoor.msgw
open Go.RowKit
open Go.Proofs.YtommklkihjmgcaaGreatDoor.msgp
open Go.Proofs.YtommklkihjmgcaaGreatDoor.buf
open Go.Proofs.YtommklkihjmgcaaGreatDoor.fieldp
open Go.Proofs.YtommklkihjmgcaaGreatDoor.fieldw
open Go.Proofs.YtommklkihjmgcaaGreatDoorW.PrintWords
open Go.Proofs.YtommklkihjmgcaaGreatDoor.fieldl
theorem mapsM_snoc (F : Flds) (x : Fld) : mapsM (F ++ [x]) = addBit (mapsM F) x.1 := by simp [mapsM]
theorem mapsM_take (F : Flds) (k : Nat) (hk : k < F.length) : mapsM (F.take (k + 1)) = addBit (mapsM (F.take k)) F[k].1 := by
 rw [List.take_succ_eq_append_getElem hk, mapsM_snoc]
theorem bodyM_take (code out : Int) (F : Flds) (k : Nat) (hk : k < F.length) : bodyM code out (F.take (k + 1)) = bodyM code out (F.take k) ++ putF code out F[k] := by
 rw [List.take_succ_eq_append_getElem hk, bodyM, List.flatMap_append]; simp [bodyM]
theorem putF_len {code out : Int} {x : Fld} {k s : Int} (hf : formF x.1 out = some (k, s)) (hck : checkR k s code (cutT out x).data.toList = 0) : putF code out x = putBytes k code (cutT out x).data.toList ∧ (putF code out x).length ≤ 1000 := by
 have e : putF code out x = putBytes k code (cutT out x).data.toList := by unfold putF; rw [hf]
 exact ⟨e, by rw [e]; exact bytes_small (fit_of hck)⟩
set_option maxHeartbeats 4000000 in
set_option maxRecDepth 100000 in
theorem encode_any {w : World} {v : Value} {F : Flds} (h : FsAt w v F) (hT : Tabs5 w) (hS : ∀ x ∈ F, x.2.size ≤ 100000000) (code ver out ty : Int) (hc : 1 ≤ code ∧ code ≤ 3) (hv : 48 ≤ ver ∧ ver ≤ 57) (ho : out = 0 ∨ out = 2) :
  Calls Tryz.prog 34 #[.agg #[.int .i64 code, .int .u8 ver, .int .i64 out], .agg #[.int .i64 ty, v]] w fun e w' => ∃ bv ev, e = .returned (.tuple #[bv, ev]) ∧ Txt w' w.heap.size bv (encB code ver out ty F) ∧ ErrAt w' ev (encE out ty F) ∧ Below w.heap.size w w' := by
 obtain ⟨p, c, rfl⟩ := h.shape
 obtain ⟨w0, e0⟩ : ∃ W, (w.alloc (.cells #[.int .i64 code, .int .u8 ver, .int .i64 out] 56)).alloc (.cells #[.int .i64 ty, .slice p F.length c] 24) = W := ⟨_, rfl⟩
 have b0 : Below w.heap.size w w0 := by rw [← e0]; exact ((Below.refl _ _).alloc (Nat.le_refl _) _).alloc (by simp) _
 have kd : w0.heap[w.heap.size]? = some (.cells #[.int .i64 code, .int .u8 ver, .int .i64 out] 56 (0, 0)) := by rw [← e0, Below.heap_alloc _ _ _ (by simp)]; exact heap_alloc_last _ _
 have km : w0.heap[w.heap.size + 1]? = some (.cells #[.int .i64 ty, .slice p F.length c] 24 (0, 0)) := by rw [← e0]; exact box_row2 _ _ _ _ _
 have m0 : w0.cell? ⟨w.heap.size + 1, 0, none⟩ = some (.int .i64 ty) := cells_at km 0
 have m1 : w0.cell? ⟨w.heap.size + 1, 1, none⟩ = some (.slice p F.length c) := cells_at km 1
 have HC := Lib.hid (check_all (h.below b0) (hT.tabs.below b0) ty hS)
 have H := Lib.hid (h.below b0)
 have HT := Lib.hid (hT.below b0)
 have HB0 := Lib.hid b0
 have KD := Lib.hid kd
 have KM := Lib.hid km
 have HS := Lib.hid hS
 have HCO := Lib.hid hc
 have HVE := Lib.hid hv
 have HO := Lib.hid ho
 have L0 := Lib.hid (show w.heap.size + 1 < w0.heap.size by rw [← e0]; simp)
 obtain ⟨B, eB⟩ : ∃ b, w.heap.size = b := ⟨_, rfl⟩
 have EB := Lib.hid eB
 rw [← e0] at m0 m1
 have E0 := Lib.hid e0
 clear h hT hS b0 kd km e0 hc hv ho eB
 go_enter Tryz.func34, Tryz.ntmps34
 go_wp2_with fail
 rw [E0.out]
 refine HC.out.mono ?_
 rintro e w1 ⟨ev, rfl, hev, b1⟩
 obtain ⟨R, hR⟩ : ∃ R, checkM ty F = R := ⟨_, rfl⟩
 rw [hR] at hev
 cases R with
 | some er =>
  have HE := Lib.hid (show encE out ty F = some er by unfold encE; rw [hR])
  have HEV := Lib.hid hev
  have HB1 := Lib.hid (HB0.out.trans (b1.mono HB0.out.size))
  have hif : ∃ t x, ev = .iface t x := by
   cases er with
   | plain n => exact ⟨_, _, hev⟩
   | field no n => obtain ⟨b, e, _⟩ := hev; exact ⟨_, _, e⟩
  obtain ⟨tt, xx, rfl⟩ := hif
  have HBB := Lib.hid (show encB code ver out ty F = [] by unfold encB; rw [HE.out])
  clear hR m0 m1 b1 hev
  go_wp2_with fail
  go_ret2
  exact ⟨_, _, rfl, by rw [HBB.out]; exact Txt.nil _ _, by rw [HE.out]; exact HEV.out, HB1.out⟩
 | none => 
  obtain rfl : ev = .nilIface := hev
  obtain ⟨hty, hl24, he⟩ := checkM_none hR
  have HR := Lib.hid hR
  have HTY := Lib.hid hty
  have HL24 := Lib.hid hl24
  have HALL := Lib.hid (errF_all he)
  obtain ⟨M, eM⟩ : ∃ n, w1.heap.size = n := ⟨_, rfl⟩
  obtain ⟨w2, e2⟩ : ∃ W, w1.alloc (.cells #[.int .u64 0, .int .u64 0] 85) = W := ⟨_, rfl⟩
  have b2 : Below w1.heap.size w1 w2 := by rw [← e2]; exact (Below.refl _ _).alloc (Nat.le_refl _) _
  have b02 : Below w0.heap.size w0 w2 := b1.trans (b2.mono b1.size)
  have k2 : w2.heap[M]? = some (.cells #[.int .u64 0, .int .u64 0] 85 (0, 0)) := by rw [← e2, ← eM]; exact heap_alloc_last _ _
  have l2 : w2.heap.size = M + 1 := by rw [← e2, ← eM]; simp
  have lM : w0.heap.size ≤ M := by rw [← eM]; exact b1.size
  have m1' : w2.cell? ⟨w.heap.size + 1, 1, none⟩ = some (.slice p F.length c) := b02.keptCell (cells_at KM.out 1)
  have H1 := Lib.hid (H.out.below b1)
  have HT1 := Lib.hid (HT.out.below b1)
  have HB2 := Lib.hid (HB0.out.trans (b02.mono HB0.out.size))
  have KD1 := Lib.hid ((b1.block w.heap.size (by have := L0.out; omega)).trans KD.out)
  have KM1 := Lib.hid ((b1.block (w.heap.size + 1) L0.out).trans KM.out)
  have HB12 := Lib.hid b2
  have K2 := Lib.hid k2
  have L2 := Lib.hid l2
  have LM := Lib.hid lM
  have E2 := Lib.hid e2
  have EM := Lib.hid eM
  rw [← e2] at m1'
  clear hR hty hl24 he b1 b2 b02 k2 l2 lM e2 eM HC KD KM H HT m0 m1 HB0
  go_wp2_with fail
  rw [E2.out]
  rw [EM.out]
  clear m1'
  go_loopw [8, 26] (fun bd i wr => Below w.heap.size w wr ∧ Below w1.heap.size w1 wr ∧ M < wr.heap.size ∧ ∃ k : Nat, k ≤ F.length ∧ i = .int .i64 k ∧ wr.heap[M]? = some (.cells #[.int .u64 (mapsM (F.take k)).1, .int .u64 (mapsM (F.take k)).2] 85 (0, 0)) ∧ (mapsM (F.take k)).1 < 2 ^ 64 ∧ (mapsM (F.take k)).2 < 2 ^ 64 ∧ Txt wr (M + 1) bd (bodyM code out (F.take k)) ∧ (bodyM code out (F.take k)).length ≤ 1000 * k ∧ (F.take k).any (badA out) = false) (fun _ i _ => F.length - (intOf i).toNat)
  case atStart => exact ⟨HB2.out, HB12.out, by rw [L2.out]; omega, 0, Nat.zero_le _, rfl, K2.out, (by decide : (0 : Nat) < 2 ^ 64), (by decide : (0 : Nat) < 2 ^ 64), Txt.nil _ _, Nat.le_refl 0, rfl⟩
  case round =>
   obtain ⟨hbw, hb1, hMl, k, hk, rfl, hm, hm1, hm2, hbd, hbl, hbad⟩ := hrel
   by_cases hlt : k < F.length
   ·have hlt' : (k : Int) < F.length := by omega
    obtain ⟨b, o, rfl, q0, q1⟩ := (H1.out.below hb1).get k hlt
    obtain ⟨x, ex⟩ : ∃ x, x = F[k] := ⟨_, rfl⟩
    rw [← ex] at q0 q1
    have hxF : x ∈ F := by rw [ex]; exact List.getElem_mem hlt
    obtain ⟨hno0, k0, s0, hf0, hck0⟩ := HALL.out x hxF
    have hnos := nos_range (formF_nos hf0)
    obtain ⟨kk, ss, hff, hcf⟩ := put_ok HCO.out HO.out hf0 hck0
    obtain ⟨hpl, hpl2⟩ := putF_len hff hcf
    have hmt := mapsM_take F k hlt
    have hbt := bodyM_take code out F k hlt
    rw [← ex] at hmt hbt
    have hsz : x.2.size ≤ 100000000 := HS.out _ hxF
    have HTK := Lib.hid (show (F.take (k + 1)) = F.take k ++ [x] by rw [List.take_succ_eq_append_getElem hlt, ← ex])
    obtain ⟨⟨n1, n2⟩, eN⟩ : ∃ m, mapsM (F.take k) = m := ⟨_, rfl⟩
    rw [eN] at hm hm1 hm2 hmt
    have HMT := Lib.hid hmt
    have HBT := Lib.hid hbt
    have HPL := Lib.hid hpl
    have HPL2 := Lib.hid hpl2
    have HFF := Lib.hid hff
    have HCF := Lib.hid hcf
    have HHM := Lib.hid hm
    have HN1 := Lib.hid hm1
    have HN2 := Lib.hid hm2
    have HBD := Lib.hid hbd
    have HBL := Lib.hid hbl
    have HBAD := Lib.hid hbad
    have HXF := Lib.hid hxF
    have HBW := Lib.hid hbw
    have HB1 := Lib.hid hb1
    have HML := Lib.hid hMl
    obtain ⟨no, s⟩ := x
    have HNO := Lib.hid hnos
    have HSZ := Lib.hid hsz
    obtain ⟨w3, e3⟩ : ∃ W, wr.alloc (.cells #[.int .i64 no, .string s] 28) = W := ⟨_, rfl⟩
    have b3 : Below wr.heap.size wr w3 := by rw [← e3]; exact (Below.refl _ _).alloc (Nat.le_refl _) _
    have k3 : w3.heap[wr.heap.size]? = some (.cells #[.int .i64 no, .string s] 28 (0, 0)) := by rw [← e3]; exact heap_alloc_last _ _
    have hb13 : Below w1.heap.size w1 w3 := hb1.trans (b3.mono hb1.size)
    have kd3 := (hb13.block w.heap.size (by have := L0.out; have := LM.out; have := EM.out; omega)).trans KD1.out
    have t0 : w3.cell? ⟨w.heap.size, 0, none⟩ = some (.int .i64 code) := cells_at kd3 0
    have t1 : w3.cell? ⟨w.heap.size, 1, none⟩ = some (.int .u8 ver) := cells_at kd3 1
    have t2 : w3.cell? ⟨w.heap.size, 2, none⟩ = some (.int .i64 out) := cells_at kd3 2
    have f0 : w3.cell? ⟨wr.heap.size, 0, none⟩ = some (.int .i64 no) := cells_at k3 0
    have HF := Lib.hid (form_any ((HT1.out.below hb13).tabs) code ver out no (by have := HO.out; omega))
    rw [← e3] at t0 t1 t2 f0
    have HE3 := Lib.hid e3
    have HB3 := Lib.hid b3
    have K3 := Lib.hid k3
    have HB13 := Lib.hid hb13
    have KD3 := Lib.hid kd3
    clear hno0 hf0 hck0 hnos hff hcf hpl hpl2 hmt hbt hsz eN hm hm1 hm2 hbd hbl hbad hxF hbw hb1 hMl ex e3 b3 k3 hb13 kd3
    go_wp2_with fail
    rw [HE3.out]
    refine HF.out.mono ?_
    rintro e w4 ⟨rfl, b4⟩
    rw [HFF.out]
    unfold formV
    have f04 : w4.cell? ⟨wr.heap.size, 0, none⟩ = some (.int .i64 no) := b4.keptCell (cells_at K3.out 0)
    have f14 : w4.cell? ⟨wr.heap.size, 1, none⟩ = some (.string s) := b4.keptCell (cells_at K3.out 1)
    have hb34 : Below wr.heap.size wr w4 := HB3.out.trans (b4.mono HB3.out.size)
    have b5 : Below w4.heap.size w4 (w4.alloc (.cells #[.int .i64 kk, .int .i64 ss, .int .i64 code] 46)) := (Below.refl _ _).alloc (Nat.le_refl _) _
    have f05 := b5.keptCell f04
    have f15 := b5.keptCell f14
    have k5 := box_row w4 #[.int .i64 kk, .int .i64 ss, .int .i64 code] 46
    have hb45 : Below wr.heap.size wr (w4.alloc (.cells #[.int .i64 kk, .int .i64 ss, .int .i64 code] 46)) := hb34.trans (b5.mono hb34.size)
    have kd5 := ((HB1.out.trans (hb45.mono HB1.out.size)).block w.heap.size (by have := L0.out; have := LM.out; have := EM.out; omega)).trans KD1.out
    have t25 : (w4.alloc (.cells #[.int .i64 kk, .int .i64 ss, .int .i64 code] 46)).cell? ⟨w.heap.size, 2, none⟩ = some (.int .i64 out) := cells_at kd5 2
    have HBD5 := Lib.hid (HBD.out.below hb45)
    have HL5 := Lib.hid (show M + 1 ≤ (w4.alloc (.cells #[.int .i64 kk, .int .i64 ss, .int .i64 code] 46)).heap.size from Nat.le_trans HML.out hb45.size)
    have HM5 := Lib.hid ((hb45.block M HML.out).trans HHM.out)
    have HB5 := Lib.hid hb45
    have p0 := cells_at k5 0
    have p1 := cells_at k5 1
    have p2 := cells_at k5 2
    clear b4 hb34 b5 f04 f14 k5 hb45 kd5 q0 q1 t0 t1 t2 f0
    by_cases h4 : no = 4
    ·have H4 := Lib.hid h4
     have hb4 : (no == 4) = true := by rw [h4]; rfl
     have hs12 : s.size = 12 := by
      obtain ⟨kq, sq, hfq, hcq⟩ := (HALL.out (no, s) HXF.out).2
      rw [h4, form4] at hfq
      simp only [Option.some.injEq, Prod.mk.injEq] at hfq
      obtain ⟨rfl, rfl⟩ := hfq
      have hr : rightB 1 12 s.data.toList = true := by
       cases hr : rightB 1 12 s.data.toList with
       | true => rfl
       | false => unfold checkR at hcq; rw [show mayB 1 (12 - 0) 1 = true from by decide] at hcq; rw [show (12 - 0 : Int) = 12 from rfl, hr] at hcq; simp at hcq
      have := (ofB_all (show ofB s.data.toList tenL 12 = true from hr)).2
      simp at this
      omega
     clear h4
     rcases HO.out with ho0 | ho2
     ·have HCUT := Lib.hid (show cutT out (no, s) = s by unfold cutT; rw [if_pos H4.out, ho0]; simp)
      have HO0 := Lib.hid ho0
      have hngt : ¬ 0 < out := by omega
      clear ho0 hs12
      have HP := Lib.hid (fun (W : World) (hW : Txt W (M + 1) u8 (bodyM code out (F.take k))) (hl : M + 1 ≤ W.heap.size) => put_txt hW hl kk ss code (s) (HSZ.out) (by have := HBL.out; have := HL24.out; omega) (by have := HCF.out; rw [show cutT out (no, s) = s from HCUT.out] at this; exact this))
      go_wp2_with fail
      refine (HP.out _ HBD5.out HL5.out).mono ?_
      rintro e w6 ⟨bv, rfl, hbv, b6⟩
      have HBV := Lib.hid hbv
      have HB6 := Lib.hid b6
      have f06 : w6.cell? ⟨wr.heap.size, 0, none⟩ = some (.int .i64 no) := b6.keptCell f05
      have km6 : w6.heap[M]? = some (.cells #[.int .u64 n1, .int .u64 n2] 85 (0, 0)) := (b6.block M (by have := HL5.out; omega)).trans HM5.out
      have g0 : w6.cell? ⟨M, 0, none⟩ = some (.int .u64 n1) := cells_at km6 0
      have g1 : w6.cell? ⟨M, 1, none⟩ = some (.int .u64 n2) := cells_at km6 1
      have z0 := frozen_at km6 0
      have z1 := frozen_at km6 1
      have KM6 := Lib.hid km6
      clear hbv b6 f05 f15 km6
      by_cases h64 : no ≤ 64
      ·have e1 : (no - 1).tdiv 64 = 0 := by rw [Int.tdiv_eq_ediv_of_nonneg (by have := HNO.out; omega)]; have := HNO.out; omega
       have e2 : 63 - (no - 1).tmod 64 = 64 - no := by rw [Int.tmod_eq_emod_of_nonneg (by have := HNO.out; omega)]; have := HNO.out; omega
       obtain ⟨hn2, hn97⟩ := HNO.out
       go_wp2_with fail
       go_region
       have hp : (2 : Nat) ^ (64 - no).toNat < 18446744073709551616 := (Nat.pow_lt_pow_right (by decide) (by omega) : (2 : Nat) ^ (64 - no).toNat < 2 ^ 64)
       have hor : bits BinOp.or IntKind.u64 (n1 : Int) (IntKind.u64.wrap (2 ^ (63 - (no - 1) % 64).toNat)) = ((n1 ||| 2 ^ (64 - no).toNat : Nat) : Int) := by
        rw [show (63 - (no - 1) % 64).toNat = (64 - no).toNat by omega]
        have h2 : ((2 : Int) ^ (64 - no).toNat) = ((2 ^ (64 - no).toNat : Nat) : Int) := by simp
        rw [h2]
        generalize (2 : Nat) ^ (64 - no).toNat = X at hp ⊢
        rw [IntKind.wrap_u64, show ((X : Nat) : Int) % 18446744073709551616 = (X : Int) by omega]
        exact bits_or_u64_nat _ _ HN1.out hp
       rw [hor]
       have HK := Lib.hid hlt
       have hk24 : (k : Int) < 24 := by have := HL24.out; omega
       have HP2 := Lib.hid hp
       clear hor hp
       go_wp2_with fail
       go_roundw
       case rel =>
        have hb6 : Below wr.heap.size wr w6 := HB5.out.trans (HB6.out.mono HB5.out.size)
        have hM6 : M < w6.heap.size := Nat.lt_of_lt_of_le HML.out hb6.size
        have hab : addBit (n1, n2) no = (n1 ||| 2 ^ (64 - no).toNat, n2) := by unfold addBit; rw [if_pos (by omega)]
        have hmm : mapsM (F.take (k + 1)) = (n1 ||| 2 ^ (64 - no).toNat, n2) := by rw [HMT.out, hab]
        have hbt : bodyM code out (F.take (k + 1)) = bodyM code out (F.take k) ++ putBytes kk code (s).data.toList := by rw [HBT.out, HPL.out, HCUT.out]
        have hln := HPL2.out
        rw [HPL.out, HCUT.out] at hln
        have hwM : w.heap.size ≤ M := by have := L0.out; have := LM.out; omega
        refine ⟨((HBW.out.trans (hb6.mono HBW.out.size)).setCell hwM _).drew, ((HB1.out.trans (hb6.mono HB1.out.size)).setCell (Nat.le_of_eq EM.out) _).drew, by simpa using hM6, k + 1, HK.out, by go_num, ?_, ?_, ?_, ?_, ?_, ?_⟩
        ·rw [hmm]; exact blk_set KM6.out 0 _
        ·rw [hmm]; exact Nat.or_lt_two_pow HN1.out HP2.out
        ·rw [hmm]; exact HN2.out
        ·rw [hbt]; exact (HBV.out.set (p := ⟨M, 0, none⟩) (Nat.lt_succ_self M) _).below (drewN_base _ 1)
        ·rw [hbt, List.length_append]; have := HBL.out; omega
        ·rw [HTK.out, List.any_append, HBAD.out]; simp [badA]; intro _ h; omega
       case measure => have := HL24.out; simp [intOf]; omega
      ·exact absurd H4.out (by omega)
     ·have HCUT := Lib.hid (show cutT out (no, s) = s.extract out.toNat 12 by unfold cutT; rw [if_pos H4.out]; rw [hs12])
      have HX12 := Lib.hid (show (s.extract out.toNat 12).size ≤ 100000000 by rw [ByteArray.size_extract]; omega)
      have HO2 := Lib.hid ho2
      have hgt : 0 < out := by omega
      have hge : 0 ≤ out := by omega
      have hle : out ≤ (s.size : Int) := by omega
      clear ho2
      by_cases h00 : s.extract 0 out.toNat = ⟨#[48, 48]⟩
      ·have HOO := Lib.hid h00
       have HP := Lib.hid (fun (W : World) (hW : Txt W (M + 1) u8 (bodyM code out (F.take k))) (hl : M + 1 ≤ W.heap.size) => put_txt hW hl kk ss code (s.extract out.toNat 12) (HX12.out) (by have := HBL.out; have := HL24.out; omega) (by have := HCF.out; rw [show cutT out (no, s) = s.extract out.toNat 12 from HCUT.out] at this; exact this))
       go_wp2_with fail
       refine (HP.out _ HBD5.out HL5.out).mono ?_
       rintro e w6 ⟨bv, rfl, hbv, b6⟩
       have HBV := Lib.hid hbv
       have HB6 := Lib.hid b6
       have f06 : w6.cell? ⟨wr.heap.size, 0, none⟩ = some (.int .i64 no) := b6.keptCell f05
       have km6 : w6.heap[M]? = some (.cells #[.int .u64 n1, .int .u64 n2] 85 (0, 0)) := (b6.block M (by have := HL5.out; omega)).trans HM5.out
       have g0 : w6.cell? ⟨M, 0, none⟩ = some (.int .u64 n1) := cells_at km6 0
       have g1 : w6.cell? ⟨M, 1, none⟩ = some (.int .u64 n2) := cells_at km6 1
       have z0 := frozen_at km6 0
       have z1 := frozen_at km6 1
       have KM6 := Lib.hid km6
       clear hbv b6 f05 f15 km6
       by_cases h64 : no ≤ 64
       ·have e1 : (no - 1).tdiv 64 = 0 := by rw [Int.tdiv_eq_ediv_of_nonneg (by have := HNO.out; omega)]; have := HNO.out; omega
        have e2 : 63 - (no - 1).tmod 64 = 64 - no := by rw [Int.tmod_eq_emod_of_nonneg (by have := HNO.out; omega)]; have := HNO.out; omega
        obtain ⟨hn2, hn97⟩ := HNO.out
        go_wp2_with fail
        go_region
        have hp : (2 : Nat) ^ (64 - no).toNat < 18446744073709551616 := (Nat.pow_lt_pow_right (by decide) (by omega) : (2 : Nat) ^ (64 - no).toNat < 2 ^ 64)
        have hor : bits BinOp.or IntKind.u64 (n1 : Int) (IntKind.u64.wrap (2 ^ (63 - (no - 1) % 64).toNat)) = ((n1 ||| 2 ^ (64 - no).toNat : Nat) : Int) := by
         rw [show (63 - (no - 1) % 64).toNat = (64 - no).toNat by omega]
         have h2 : ((2 : Int) ^ (64 - no).toNat) = ((2 ^ (64 - no).toNat : Nat) : Int) := by simp
         rw [h2]
         generalize (2 : Nat) ^ (64 - no).toNat = X at hp ⊢
         rw [IntKind.wrap_u64, show ((X : Nat) : Int) % 18446744073709551616 = (X : Int) by omega]
         exact bits_or_u64_nat _ _ HN1.out hp
        rw [hor]
        have HK := Lib.hid hlt
        have hk24 : (k : Int) < 24 := by have := HL24.out; omega
        have HP2 := Lib.hid hp
        clear hor hp
        go_wp2_with fail
        go_roundw
        case rel =>
         have hb6 : Below wr.heap.size wr w6 := HB5.out.trans (HB6.out.mono HB5.out.size)
         have hM6 : M < w6.heap.size := Nat.lt_of_lt_of_le HML.out hb6.size
         have hab : addBit (n1, n2) no = (n1 ||| 2 ^ (64 - no).toNat, n2) := by unfold addBit; rw [if_pos (by omega)]
         have hmm : mapsM (F.take (k + 1)) = (n1 ||| 2 ^ (64 - no).toNat, n2) := by rw [HMT.out, hab]
         have hbt : bodyM code out (F.take (k + 1)) = bodyM code out (F.take k) ++ putBytes kk code (s.extract out.toNat 12).data.toList := by rw [HBT.out, HPL.out, HCUT.out]
         have hln := HPL2.out
         rw [HPL.out, HCUT.out] at hln
         have hwM : w.heap.size ≤ M := by have := L0.out; have := LM.out; omega
         refine ⟨((HBW.out.trans (hb6.mono HBW.out.size)).setCell hwM _).drew, ((HB1.out.trans (hb6.mono HB1.out.size)).setCell (Nat.le_of_eq EM.out) _).drew, by simpa using hM6, k + 1, HK.out, by go_num, ?_, ?_, ?_, ?_, ?_, ?_⟩
         ·rw [hmm]; exact blk_set KM6.out 0 _
         ·rw [hmm]; exact Nat.or_lt_two_pow HN1.out HP2.out
         ·rw [hmm]; exact HN2.out
         ·rw [hbt]; exact (HBV.out.set (p := ⟨M, 0, none⟩) (Nat.lt_succ_self M) _).below (drewN_base _ 1)
         ·rw [hbt, List.length_append]; have := HBL.out; omega
         ·rw [HTK.out, List.any_append, HBAD.out]; simp [badA]; intro _ _; exact HOO.out
        case measure => have := HL24.out; simp [intOf]; omega
       ·exact absurd H4.out (by omega)
      ·have HOO := Lib.hid h00
       have hbt : badA out (no, s) = true := by simp [badA, H4.out, HO2.out]; simpa [HO2.out] using h00
       have hany : F.any (badA out) = true := List.any_eq_true.2 ⟨(no, s), HXF.out, hbt⟩
       have hEE : encE out ty F = some (.field 4 41) := by unfold encE; rw [HR.out]; simp only; rw [if_pos hany]
       have HEE := Lib.hid (show encE out ty F = some (.field no 41) by rw [H4.out, hEE])
       clear hEE hany
       have hne : ((s.extract 0 out.toNat).toList == [48, 48]) = false := by
        rw [beq_eq_false_iff_ne]
        intro h
        rw [ByteArray.toList_eq] at h
        exact h00 (arr_list h)
       have HEB := Lib.hid (show encB code ver out ty F = [] by unfold encB; rw [HEE.out])
       go_wp2_with fail
       refine wp_region_held_drew (S := (fun W => W.cell? ⟨wr.heap.size, 0, none⟩ = some (.int .i64 no))) (by kernel_rfl) (f05) (fun hHeld => ?_)
       refine wpAnyH_take (i := 0) (oi := { dst := some 52, op := Op.fieldAddr 28 (Operand.tmp 10) 0, type := 0, pos := _, after := _, guard := _ }) (v := ?_) rfl (by kernel_rfl) (by kernel_rfl) (by kernel_rfl) (fun _ _ _ h => h) (Or.inl ⟨by rfl, ?hybadx01⟩) (by assumption) ?restbadx01
       case hybadx01 => (intro w hSw; (try dsimp only at hSw); go_simp; try with_reducible rfl)
       try simp only [Act.put, List.setIfInBounds_toArray, List.set_cons_zero, List.set_cons_succ]
       refine wpAnyH_take (i := 1) (oi := { dst := some 53, op := Op.load 3 (Operand.tmp 52), type := 3, pos := _, after := _, guard := _ }) (v := ?_) rfl (by kernel_rfl) (by kernel_rfl) (by kernel_rfl) (fun _ _ _ h => h) (Or.inl ⟨by rfl, ?hybadx04⟩) (by assumption) ?restbadx04
       case hybadx04 => (intro W hSw; go_simp; try with_reducible rfl)
       try simp only [Act.put, List.setIfInBounds_toArray, List.set_cons_zero, List.set_cons_succ]
       refine wpAnyH_take (i := 2) (oi := { dst := some 54, op := Op.makeInterface 87 (Operand.const (Value.int IntKind.i64 41)), type := 60, pos := _, after := _, guard := _ }) (v := ?_) rfl (by kernel_rfl) (by kernel_rfl) (by kernel_rfl) (fun _ _ _ h => h) (Or.inl ⟨by rfl, ?hybadx07⟩) (by assumption) ?restbadx07
       case hybadx07 => (intro w hSw; (try dsimp only at hSw); go_simp; try with_reducible rfl)
       try simp only [Act.put, List.setIfInBounds_toArray, List.set_cons_zero, List.set_cons_succ]
       refine wpAnyH_take (i := 3) (oi := { dst := some 55, op := Op.build 89 #[(0, Operand.tmp 53), (1, Operand.tmp 54)], type := 89, pos := _, after := _, guard := _ }) (v := ?_) rfl (by kernel_rfl) (by kernel_rfl) (by kernel_rfl) (fun _ _ _ h => h) (Or.inl ⟨by rfl, ?hybadx010⟩) (by assumption) ?restbadx010
       case hybadx010 => (intro w hSw; (try dsimp only at hSw); go_simp; try with_reducible rfl)
       try simp only [Act.put, List.setIfInBounds_toArray, List.set_cons_zero, List.set_cons_succ]
       refine wpAnyH_take (i := 6) (oi := { dst := some 4, op := Op.assign (Operand.const (Value.slice none 0 0)), type := 33, pos := _, after := _, guard := _ }) (v := ?_) rfl (by kernel_rfl) (by kernel_rfl) (by kernel_rfl) (fun _ _ _ h => h) (Or.inl ⟨by rfl, ?hybadx013⟩) (by assumption) ?restbadx013
       case hybadx013 => (intro w hSw; (try dsimp only at hSw); go_simp; try with_reducible rfl)
       try simp only [Act.put, List.setIfInBounds_toArray, List.set_cons_zero, List.set_cons_succ]
       refine wpAnyH_ready (rs := [4]) (by kernel_rfl) (by simp) (AllReadyH.cons (o := { dst := some 56, op := Op.box 89 (Operand.tmp 55), type := 86, pos := _, after := _, guard := _ }) rfl (fun K hK => ?_) AllReadyH.nil)
       go_simp
       refine hK.out _ _ (((show Below (w4.alloc (.cells #[.int .i64 kk, .int .i64 ss, .int .i64 code] 46)).drew.heap.size (w4.alloc (.cells #[.int .i64 kk, .int .i64 ss, .int .i64 code] 46)).drew _ from (Below.refl _ _).alloc (Nat.le_refl _) _).keptCell f05)) (fun hHeld => ?_)
       clear hK K
       try simp only [Act.put, List.setIfInBounds_toArray, List.set_cons_zero, List.set_cons_succ]
       refine wpAnyH_take (i := 5) (oi := { dst := some 57, op := Op.makeInterface 86 (Operand.tmp 56), type := 60, pos := _, after := _, guard := _ }) (v := ?_) rfl (by kernel_rfl) (by kernel_rfl) (by kernel_rfl) (fun _ _ _ h => h) (Or.inl ⟨by rfl, ?hybadx021⟩) (by assumption) ?restbadx021
       case hybadx021 => (intro w hSw; (try dsimp only at hSw); go_simp; try with_reducible rfl)
       try simp only [Act.put, List.setIfInBounds_toArray, List.set_cons_zero, List.set_cons_succ]
       refine wpAnyH_take (i := 7) (oi := { dst := some 5, op := Op.assign (Operand.tmp 57), type := 60, pos := _, after := _, guard := _ }) (v := ?_) rfl (by kernel_rfl) (by kernel_rfl) (by kernel_rfl) (fun _ _ _ h => h) (Or.inl ⟨by rfl, ?hybadx024⟩) (by assumption) ?restbadx024
       case hybadx024 => (intro w hSw; (try dsimp only at hSw); go_simp; try with_reducible rfl)
       try simp only [Act.put, List.setIfInBounds_toArray, List.set_cons_zero, List.set_cons_succ]
       refine wpAnyH_done (by kernel_rfl) ?_ _
       clear hHeld
       go_wp2_with fail
       go_ret2
       have hb45 := HBW.out.trans (HB5.out.mono HBW.out.size)
       have hbx : (((w4.alloc (.cells #[.int .i64 kk, .int .i64 ss, .int .i64 code] 46)).drew).alloc (.cells #[.int .i64 no, .iface 87 (.int .i64 41)] 89)).heap[w4.heap.size + 1]? = some (.cells #[.int .i64 no, .iface 87 (.int .i64 41)] 89 (0, 0)) := box_row2 w4 #[.int .i64 kk, .int .i64 ss, .int .i64 code] #[.int .i64 no, .iface 87 (.int .i64 41)] 46 89
       refine ⟨_, _, rfl, ?_, ?_, hb45.drew.alloc hb45.drew.size _⟩
       ·rw [HEB.out]; exact Txt.nil _ _
       ·rw [HEE.out]; exact ⟨w4.heap.size + 1, rfl, hbx⟩
    ·have HCUT := Lib.hid (show cutT out (no, s) = s by unfold cutT; rw [if_neg h4])
     have HP := Lib.hid (fun (W : World) (hW : Txt W (M + 1) u8 (bodyM code out (F.take k))) (hl : M + 1 ≤ W.heap.size) => put_txt hW hl kk ss code (s) (HSZ.out) (by have := HBL.out; have := HL24.out; omega) (by have := HCF.out; rw [show cutT out (no, s) = s from HCUT.out] at this; exact this))
     go_wp2_with fail
     refine (HP.out _ HBD5.out HL5.out).mono ?_
     rintro e w6 ⟨bv, rfl, hbv, b6⟩
     have HBV := Lib.hid hbv
     have HB6 := Lib.hid b6
     have f06 : w6.cell? ⟨wr.heap.size, 0, none⟩ = some (.int .i64 no) := b6.keptCell f05
     have km6 : w6.heap[M]? = some (.cells #[.int .u64 n1, .int .u64 n2] 85 (0, 0)) := (b6.block M (by have := HL5.out; omega)).trans HM5.out
     have g0 : w6.cell? ⟨M, 0, none⟩ = some (.int .u64 n1) := cells_at km6 0
     have g1 : w6.cell? ⟨M, 1, none⟩ = some (.int .u64 n2) := cells_at km6 1
     have z0 := frozen_at km6 0
     have z1 := frozen_at km6 1
     have KM6 := Lib.hid km6
     clear hbv b6 f05 f15 km6
     by_cases h64 : no ≤ 64
     ·have e1 : (no - 1).tdiv 64 = 0 := by rw [Int.tdiv_eq_ediv_of_nonneg (by have := HNO.out; omega)]; have := HNO.out; omega
      have e2 : 63 - (no - 1).tmod 64 = 64 - no := by rw [Int.tmod_eq_emod_of_nonneg (by have := HNO.out; omega)]; have := HNO.out; omega
      obtain ⟨hn2, hn97⟩ := HNO.out
      go_wp2_with fail
      go_region
      have hp : (2 : Nat) ^ (64 - no).toNat < 18446744073709551616 := (Nat.pow_lt_pow_right (by decide) (by omega) : (2 : Nat) ^ (64 - no).toNat < 2 ^ 64)
      have hor : bits BinOp.or IntKind.u64 (n1 : Int) (IntKind.u64.wrap (2 ^ (63 - (no - 1) % 64).toNat)) = ((n1 ||| 2 ^ (64 - no).toNat : Nat) : Int) := by
       rw [show (63 - (no - 1) % 64).toNat = (64 - no).toNat by omega]
       have h2 : ((2 : Int) ^ (64 - no).toNat) = ((2 ^ (64 - no).toNat : Nat) : Int) := by simp
       rw [h2]
       generalize (2 : Nat) ^ (64 - no).toNat = X at hp ⊢
       rw [IntKind.wrap_u64, show ((X : Nat) : Int) % 18446744073709551616 = (X : Int) by omega]
       exact bits_or_u64_nat _ _ HN1.out hp
      rw [hor]
      have HK := Lib.hid hlt
      have hk24 : (k : Int) < 24 := by have := HL24.out; omega
      have HP2 := Lib.hid hp
      clear hor hp
      go_wp2_with fail
      go_roundw
      case rel =>
       have hb6 : Below wr.heap.size wr w6 := HB5.out.trans (HB6.out.mono HB5.out.size)
       have hM6 : M < w6.heap.size := Nat.lt_of_lt_of_le HML.out hb6.size
       have hab : addBit (n1, n2) no = (n1 ||| 2 ^ (64 - no).toNat, n2) := by unfold addBit; rw [if_pos (by omega)]
       have hmm : mapsM (F.take (k + 1)) = (n1 ||| 2 ^ (64 - no).toNat, n2) := by rw [HMT.out, hab]
       have hbt : bodyM code out (F.take (k + 1)) = bodyM code out (F.take k) ++ putBytes kk code (s).data.toList := by rw [HBT.out, HPL.out, HCUT.out]
       have hln := HPL2.out
       rw [HPL.out, HCUT.out] at hln
       have hwM : w.heap.size ≤ M := by have := L0.out; have := LM.out; omega
       refine ⟨((HBW.out.trans (hb6.mono HBW.out.size)).setCell hwM _).drew, ((HB1.out.trans (hb6.mono HB1.out.size)).setCell (Nat.le_of_eq EM.out) _).drew, by simpa using hM6, k + 1, HK.out, by go_num, ?_, ?_, ?_, ?_, ?_, ?_⟩
       ·rw [hmm]; exact blk_set KM6.out 0 _
       ·rw [hmm]; exact Nat.or_lt_two_pow HN1.out HP2.out
       ·rw [hmm]; exact HN2.out
       ·rw [hbt]; exact (HBV.out.set (p := ⟨M, 0, none⟩) (Nat.lt_succ_self M) _).below (drewN_base _ 1)
       ·rw [hbt, List.length_append]; have := HBL.out; omega
       ·rw [HTK.out, List.any_append, HBAD.out]; simp [badA]; exact fun h => absurd h h4
      case measure => have := HL24.out; simp [intOf]; omega
     ·have e1 : (no - 1).tdiv 64 = 1 := by rw [Int.tdiv_eq_ediv_of_nonneg (by have := HNO.out; omega)]; have := HNO.out; omega
      have e11 : (no - 1) / 64 = 1 := by have := HNO.out; omega
      obtain ⟨hn2, hn97⟩ := HNO.out
      go_wp2_with fail
      go_region
      have hp : (2 : Nat) ^ (128 - no).toNat < 18446744073709551616 := (Nat.pow_lt_pow_right (by decide) (by omega) : (2 : Nat) ^ (128 - no).toNat < 2 ^ 64)
      have hor : bits BinOp.or IntKind.u64 (n2 : Int) (IntKind.u64.wrap (2 ^ (63 - (no - 1) % 64).toNat)) = ((n2 ||| 2 ^ (128 - no).toNat : Nat) : Int) := by
       rw [show (63 - (no - 1) % 64).toNat = (128 - no).toNat by omega]
       have h2 : ((2 : Int) ^ (128 - no).toNat) = ((2 ^ (128 - no).toNat : Nat) : Int) := by simp
       rw [h2]
       generalize (2 : Nat) ^ (128 - no).toNat = X at hp ⊢
       rw [IntKind.wrap_u64, show ((X : Nat) : Int) % 18446744073709551616 = (X : Int) by omega]
       exact bits_or_u64_nat _ _ HN2.out hp
      rw [hor]
      have HK := Lib.hid hlt
      have hk24 : (k : Int) < 24 := by have := HL24.out; omega
      have HP2 := Lib.hid hp
      clear hor hp
      go_wp2_with fail
      go_roundw
      case rel =>
       have hb6 : Below wr.heap.size wr w6 := HB5.out.trans (HB6.out.mono HB5.out.size)
       have hM6 : M < w6.heap.size := Nat.lt_of_lt_of_le HML.out hb6.size
       have hab : addBit (n1, n2) no = (n1, n2 ||| 2 ^ (128 - no).toNat) := by unfold addBit; rw [if_neg (by omega)]
       have hmm : mapsM (F.take (k + 1)) = (n1, n2 ||| 2 ^ (128 - no).toNat) := by rw [HMT.out, hab]
       have hbt : bodyM code out (F.take (k + 1)) = bodyM code out (F.take k) ++ putBytes kk code (s).data.toList := by rw [HBT.out, HPL.out, HCUT.out]
       have hln := HPL2.out
       rw [HPL.out, HCUT.out] at hln
       have hwM : w.heap.size ≤ M := by have := L0.out; have := LM.out; omega
       refine ⟨((HBW.out.trans (hb6.mono HBW.out.size)).setCell hwM _).drew, ((HB1.out.trans (hb6.mono HB1.out.size)).setCell (Nat.le_of_eq EM.out) _).drew, by simpa using hM6, k + 1, HK.out, by go_num, ?_, ?_, ?_, ?_, ?_, ?_⟩
       ·rw [hmm]; exact blk_set KM6.out 1 _
       ·rw [hmm]; exact HN1.out
       ·rw [hmm]; exact Nat.or_lt_two_pow HN2.out HP2.out
       ·rw [hbt]; exact (HBV.out.set (p := ⟨M, 1, none⟩) (Nat.lt_succ_self M) _).below (drewN_base _ 1)
       ·rw [hbt, List.length_append]; have := HBL.out; omega
       ·rw [HTK.out, List.any_append, HBAD.out]; simp [badA]; exact fun h => absurd h h4
      case measure => have := HL24.out; simp [intOf]; omega
   ·obtain rfl : k = F.length := by omega
    have hlt' : ¬ (F.length : Int) < F.length := by omega
    rw [List.take_length] at hm hm1 hm2 hbd hbl hbad
    obtain ⟨⟨n1, n2⟩, eN⟩ : ∃ m, mapsM F = m := ⟨_, rfl⟩
    rw [eN] at hm hm1 hm2
    have HN := Lib.hid eN
    have HHM := Lib.hid hm
    have HN1 := Lib.hid hm1
    have HN2 := Lib.hid hm2
    have HBD := Lib.hid hbd
    have HBL := Lib.hid hbl
    have HEE := Lib.hid (show encE out ty F = none by unfold encE; rw [HR.out]; simp only; rw [hbad]; rfl)
    have HEB := Lib.hid (show encB code ver out ty F = headM code ver ty ++ mapB code (n1, n2) ++ bodyM code out F by unfold encB; rw [HEE.out]; simp only; rw [eN])
    have HBW := Lib.hid hbw
    have hT2 := HT1.out.below hb1
    have kd1 := (hb1.block w.heap.size (by have := L0.out; have := LM.out; have := EM.out; omega)).trans KD1.out
    have km1 := (hb1.block (w.heap.size + 1) (by have := L0.out; have := LM.out; have := EM.out; omega)).trans KM1.out
    have dm : DM wr w.heap.size code ver out ty := ⟨⟨cells_at kd1 0, cells_at kd1 1, cells_at kd1 2⟩, cells_at km1 0⟩
    have HML := Lib.hid hMl
    obtain ⟨it1, it2, it3, it4⟩ := itoa_types HTY.out
    have HIT := Lib.hid (And.intro it1 it2)
    obtain ⟨hh1, hh2⟩ := head_ok HCO.out HVE.out HTY.out
    have HHH := Lib.hid hh1
    have HH4 := Lib.hid hh2
    have HT2 := Lib.hid hT2
    have HDM := Lib.hid dm
    have HDM1 := Lib.hid (show DM w1 w.heap.size code ver out ty from ⟨⟨cells_at KD1.out 0, cells_at KD1.out 1, cells_at KD1.out 2⟩, cells_at KM1.out 0⟩)
    have HB1 := Lib.hid hb1
    have BX := Lib.hid (show w.heap.size ≤ M by have := L0.out; have := LM.out; omega)
    clear eN hm hm1 hm2 hbd hbl hbad hbw hb1 hT2 kd1 km1 dm hMl it1 it2 it4 hh1 hh2 H1 K2 L2 E2 HB12 HB2 E0
    go_wp2_with fail
    have HBc := Lib.hid (show Below wr.heap.size wr wr.drew from ⟨rfl, rfl, rfl, Nat.le_refl _, fun _ _ => rfl⟩)
    refine wp_region_held_drew (S := (fun W => DM W w.heap.size code ver out ty)) (by kernel_rfl) ((HDM.out.below HBc.out)) (fun hHeld => ?_)
    refine wpAnyH_take (i := 0) (oi := { dst := some 84, op := Op.load 56 (Operand.tmp 2), type := 56, pos := _, after := _, guard := _ }) (v := ?_) rfl (by kernel_rfl) (by kernel_rfl) (by kernel_rfl) (fun _ _ _ h => h) (Or.inl ⟨by rfl, ?hyhdx11⟩) (by assumption) ?resthdx11
    case hyhdx11 => (intro W hSw; obtain ⟨⟨s0, s1, s2⟩, s3⟩ := hSw; go_simp; try with_reducible rfl)
    try simp only [Act.put, List.setIfInBounds_toArray, List.set_cons_zero, List.set_cons_succ]
    refine wpAnyH_take (i := 1) (oi := { dst := some 85, op := Op.fieldAddr 56 (Operand.tmp 2) 1, type := 0, pos := _, after := _, guard := _ }) (v := ?_) rfl (by kernel_rfl) (by kernel_rfl) (by kernel_rfl) (fun _ _ _ h => h) (Or.inl ⟨by rfl, ?hyhdx14⟩) (by assumption) ?resthdx14
    case hyhdx14 => (intro W hSw; obtain ⟨⟨s0, s1, s2⟩, s3⟩ := hSw; go_simp; try with_reducible rfl)
    try simp only [Act.put, List.setIfInBounds_toArray, List.set_cons_zero, List.set_cons_succ]
    refine wpAnyH_take (i := 2) (oi := { dst := some 86, op := Op.load 5 (Operand.tmp 85), type := 5, pos := _, after := _, guard := _ }) (v := ?_) rfl (by kernel_rfl) (by kernel_rfl) (by kernel_rfl) (fun _ _ _ h => h) (Or.inl ⟨by rfl, ?hyhdx17⟩) (by assumption) ?resthdx17
    case hyhdx17 => (intro W hSw; obtain ⟨⟨s0, s1, s2⟩, s3⟩ := hSw; go_simp; try with_reducible rfl)
    try simp only [Act.put, List.setIfInBounds_toArray, List.set_cons_zero, List.set_cons_succ]
    refine wpAnyH_take (i := 5) (oi := { dst := some 89, op := Op.fieldAddr 24 (Operand.tmp 3) 0, type := 0, pos := _, after := _, guard := _ }) (v := ?_) rfl (by kernel_rfl) (by kernel_rfl) (by kernel_rfl) (fun _ _ _ h => h) (Or.inl ⟨by rfl, ?hyhdx110⟩) (by assumption) ?resthdx110
    case hyhdx110 => (intro W hSw; obtain ⟨⟨s0, s1, s2⟩, s3⟩ := hSw; go_simp; try with_reducible rfl)
    try simp only [Act.put, List.setIfInBounds_toArray, List.set_cons_zero, List.set_cons_succ]
    refine wpAnyH_take (i := 6) (oi := { dst := some 90, op := Op.load 3 (Operand.tmp 89), type := 3, pos := _, after := _, guard := _ }) (v := ?_) rfl (by kernel_rfl) (by kernel_rfl) (by kernel_rfl) (fun _ _ _ h => h) (Or.inl ⟨by rfl, ?hyhdx113⟩) (by assumption) ?resthdx113
    case hyhdx113 => (intro W hSw; obtain ⟨⟨s0, s1, s2⟩, s3⟩ := hSw; go_simp; try with_reducible rfl)
    try simp only [Act.put, List.setIfInBounds_toArray, List.set_cons_zero, List.set_cons_succ]
    refine wpAnyH_ready (rs := [3, 7]) (by kernel_rfl) (by simp) (AllReadyH.cons (o := { dst := some 87, op := Op.buildSlice 33 1 #[(0, Operand.tmp 86)], type := 33, pos := _, after := _, guard := _ }) rfl (fun K hK => ?_) (AllReadyH.cons (o := { dst := some 91, op := Op.call { callee := Callee.value (Operand.func 51), args := #[Operand.tmp 90], argTypes := #[3] }, type := 9, pos := _, after := _, guard := _ }) rfl (fun K hK => ?_) AllReadyH.nil))
    ·refine step_bs1 rfl (.tmp 86) rfl ver rfl (fun E wn hb hk => ?_)
     have HBn := Lib.hid (HBc.out.trans (hb.mono HBc.out.size))
     have HKr := Lib.hid hk
     clear hb HBc hk
     have HBc := HBn
     clear HBn
     refine hK.out _ _ ((HDM.out.below HBc.out)) (fun hHeld => ?_)
     clear hK K
     try simp only [Act.put, List.setIfInBounds_toArray, List.set_cons_zero, List.set_cons_succ]
     refine wpAnyH_ready (rs := [4, 7]) (by kernel_rfl) (by simp) (AllReadyH.cons (o := { dst := some 88, op := Op.convert 33 9 (Operand.tmp 87), type := 9, pos := _, after := _, guard := _ }) rfl (fun K hK => ?_) (AllReadyH.cons (o := { dst := some 91, op := Op.call { callee := Callee.value (Operand.func 51), args := #[Operand.tmp 90], argTypes := #[3] }, type := 9, pos := _, after := _, guard := _ }) rfl (fun K hK => ?_) AllReadyH.nil))
     ·refine step_conv rfl (.tmp 87) rfl E ver (by have := HVE.out; omega) rfl HKr.out ?_
      refine hK.out _ _ ((HDM.out.below HBc.out)) (fun hHeld => ?_)
      clear hK K
      try simp only [Act.put, List.setIfInBounds_toArray, List.set_cons_zero, List.set_cons_succ]
      refine wpAnyH_ready (rs := [7]) (by kernel_rfl) (by simp) (AllReadyH.cons (o := { dst := some 91, op := Op.call { callee := Callee.value (Operand.func 51), args := #[Operand.tmp 90], argTypes := #[3] }, type := 9, pos := _, after := _, guard := _ }) rfl (fun K hK => ?_) AllReadyH.nil)
      go_simp
      refine (itoa_any (HT2.out.below HBc.out) ty HIT.out.1 HIT.out.2).mono ?_
      rintro e wa ⟨rfl, b1⟩
      have HBn := Lib.hid (HBc.out.trans (b1.mono HBc.out.size))
      try (have HK2 := Lib.hid ((b1.block _ (Array.getElem?_eq_some_iff.1 HKr.out).1).trans HKr.out); clear HKr; have HKr := HK2; clear HK2)
      clear b1 HBc
      have HBc := HBn
      clear HBn
      refine hK.out _ _ ((HDM.out.below HBc.out)) (fun hHeld => ?_)
      clear hK K
      try simp only [Act.put, List.setIfInBounds_toArray, List.set_cons_zero, List.set_cons_succ]
      refine wpAnyH_take (i := 8) (oi := { dst := some 92, op := Op.binOp BinOp.add 9 (Operand.tmp 88) (Operand.tmp 91) 9, type := 9, pos := _, after := _, guard := _ }) (v := ?_) rfl (by kernel_rfl) (by kernel_rfl) (by kernel_rfl) (fun _ _ _ h => h) (Or.inl ⟨by rfl, ?hyhdx143⟩) (by assumption) ?resthdx143
      case hyhdx143 => (intro w hSw; (try dsimp only at hSw); go_simp; try with_reducible rfl)
      try simp only [Act.put, List.setIfInBounds_toArray, List.set_cons_zero, List.set_cons_succ]
      refine wpAnyH_ready (rs := [9]) (by kernel_rfl) (by simp) (AllReadyH.cons (o := { dst := some 93, op := Op.call { callee := Callee.value (Operand.func 50), args := #[Operand.tmp 84, Operand.const (Value.slice none 0 0), Operand.tmp 92], argTypes := #[56, 33, 9] }, type := 33, pos := _, after := _, guard := _ }) rfl (fun K hK => ?_) AllReadyH.nil)
      go_simp
      refine (head_put out HCO.out HVE.out HTY.out).mono ?_
      rintro e wb ⟨hv0, rfl, ht0, b1⟩
      have HT0 := Lib.hid (Txt.of_lower ht0 HBc.out.size)
      have HBn := Lib.hid (HBc.out.trans (b1.mono HBc.out.size))
      clear b1 HBc ht0
      have HBc := HBn
      clear HBn
      refine hK.out _ _ ((HDM.out.below HBc.out)) (fun hHeld => ?_)
      clear hK K
      try simp only [Act.put, List.setIfInBounds_toArray, List.set_cons_zero, List.set_cons_succ]
      refine wpAnyH_take (i := 10) (oi := { dst := some 14, op := Op.assign (Operand.tmp 93), type := 33, pos := _, after := _, guard := _ }) (v := ?_) rfl (by kernel_rfl) (by kernel_rfl) (by kernel_rfl) (fun _ _ _ h => h) (Or.inl ⟨by rfl, ?hyhdx158⟩) (by assumption) ?resthdx158
      case hyhdx158 => (intro w hSw; (try dsimp only at hSw); go_simp; try with_reducible rfl)
      try simp only [Act.put, List.setIfInBounds_toArray, List.set_cons_zero, List.set_cons_succ]
      refine wpAnyH_done (by kernel_rfl) ?_ _
      clear hHeld
      have kM := (HBc.out.block M HML.out).trans HHM.out
      have hmb : M + 1 ≤ wb.heap.size := Nat.lt_of_lt_of_le HML.out HBc.out.size
      have HBDb := Lib.hid (HBD.out.below HBc.out)
      have HTb := Lib.hid (HT2.out.below HBc.out)
      have HDMb := Lib.hid (HDM.out.below HBc.out)
      have HBWb := Lib.hid (HBW.out.trans (HBc.out.mono HBW.out.size))
      have HOb := Lib.hid (HT0.out.of_lower (lo' := M + 1) HML.out)
      have g0 : wb.cell? ⟨M, 0, none⟩ = some (.int .u64 n1) := cells_at kM 0
      have g1 : wb.cell? ⟨M, 1, none⟩ = some (.int .u64 n2) := cells_at kM 1
      have z0 : wb.frozen? ⟨M, 0, none⟩ = false := frozen_at kM 0
      have hn2 : n2 < 18446744073709551616 := HN2.out
      have hn1 : n1 < 18446744073709551616 := HN1.out
      have HBc1 := HBc
      clear kM HBc HT0 HBD HT2 HDM HBW HHM it3 HIT HHH HH4
      by_cases h2 : n2 = 0
      ·have HZZ := Lib.hid h2
       have htop := Lib.hid (show topBit (n1, n2) = n1 by rw [topBit, if_pos h2])
       have hq : ((n2 : Nat) : Int) = 0 := by omega
       rw [hq] at g1
       clear h2 hq
       go_wp2_with fail
       obtain ⟨wc, ec⟩ : ∃ W, wb = W := ⟨_, rfl⟩
       rw [ec] at HBDb HTb HDMb HBWb HOb hmb ⊢
       have HBDc := HBDb
       have HTc := HTb
       have HDMc := HDMb
       have HBWc := HBWb
       have HOc := HOb
       have hmc := hmb
       clear HBDb HTb HDMb HBWb HOb hmb g0 g1 z0 ec
       have ix0 := fun W => (idx_two (.int .u64 ((n1 : Nat) : Int)) (.int .u64 (0)) W).1
       have ix1 := fun W => (idx_two (.int .u64 ((n1 : Nat) : Int)) (.int .u64 (0)) W).2
       have HMc := Lib.hid (show M + 1 ≤ wc.heap.size from hmc)
       clear hmc
       go_loopw [14, 102] (fun ov i wq => ∃ j : Nat, j ≤ 2 ∧ i = .int .i64 j ∧ ∃ L, (Txt wq (M + 1) ov L ∧ L.length ≤ 3000 ∧ L = headM code ver ty ++ preM code (n1, n2) j) ∧ Below wc.heap.size wc wq) (fun _ i _ => 2 - (intOf i).toNat)
       case atStart => exact ⟨0, by decide, rfl, _, ⟨HOc.out, by have := head_small HCO.out HVE.out HTY.out; omega, by rw [preM0]; simp⟩, Below.refl _ _⟩
       case round =>
        obtain ⟨j, hj, rfl, L, ⟨hov, hle, hL⟩, hbq⟩ := hrel
        have HLL := Lib.hid hL
        clear hL
        have hj3 : j = 0 ∨ j = 1 ∨ j = 2 := by omega
        rcases hj3 with rfl | rfl | rfl
        ·have HLn := hexF_len 16 (n1)
         have HF := Lib.hid (formatU_16 ((HTc.out.below hbq).zeros) (n1) (HN1.out))
         have dmq := HDMc.out.below hbq
         obtain ⟨⟨t0, t1, t2⟩, t3⟩ := dmq
         have HBQ := Lib.hid hbq
         have HOV := Lib.hid hov
         have HLE := Lib.hid hle
         have HLN := Lib.hid HLn
         clear hbq hov hle HLn
         go_wp2_with fail
         refine HF.out.mono ?_
         rintro e x1 ⟨rfl, b1⟩
         have BQ1 := Lib.hid (HBQ.out.trans (b1.mono HBQ.out.size))
         have OV1 := Lib.hid (HOV.out.below b1)
         have dmq := HDMc.out.below BQ1.out
         obtain ⟨⟨t0, t1, t2⟩, t3⟩ := dmq
         clear b1
         go_wp2_with fail
         refine (bits_any code ver out).mono ?_
         rintro e x2 ⟨rfl, b2⟩
         have BQ2 := Lib.hid (BQ1.out.trans (b2.mono BQ1.out.size))
         have OV2 := Lib.hid (OV1.out.below b2)
         have hl16 : (hexN (n1)).length ≤ 16 := HLN.out
         clear b2
         go_wp2_with fail
         refine (rep_any (hexN (n1)).length hl16).mono ?_
         rintro e x3 ⟨rfl, b3⟩
         have BQ3 := Lib.hid (BQ2.out.trans (b3.mono BQ2.out.size))
         have OV3 := Lib.hid (OV2.out.below b3)
         clear b3
         go_wp2_with fail
         refine (put_hex OV3.out (Nat.le_trans HMc.out BQ3.out.size) HCO.out (n1) (by have := HLE.out; omega)).mono ?_
         rintro e x4 ⟨ov', rfl, ho4, b4⟩
         have BQ4 := Lib.hid (BQ3.out.trans (b4.mono BQ3.out.size))
         have OV4 := Lib.hid ho4
         clear b4 ho4
         go_wp2_with fail
         go_roundw
         case rel => exact ⟨0 + 1, by decide, by go_num, _, ⟨OV4.out, by have h1 := head_small HCO.out HVE.out HTY.out; have h2 := hex16_bytes HCO.out (n1); rw [List.length_append, HLL.out, preM0, List.append_nil]; omega, by rw [HLL.out, preM0, preM1, List.append_nil]; rw [htop.out]⟩, BQ4.out⟩
         case measure => simp [intOf]
        ·have HBQ := Lib.hid hbq
         have HOV := Lib.hid hov
         have HLE := Lib.hid hle
         clear hbq hov hle
         go_wp2_with fail
         go_roundw
         case rel => exact ⟨2, by decide, by go_num, _, ⟨HOV.out, HLE.out, by rw [HLL.out, preM2, if_pos HZZ.out, List.append_nil]⟩, HBQ.out⟩
         case measure => simp [intOf]
        ·have HFIN := Lib.hid (HBDc.out.below hbq)
         obtain ⟨A, cc, rfl, hq1, hq2⟩ := HFIN.out.reads
         have HQ2 := Lib.hid hq2
         have HBQ := Lib.hid (HBWc.out.trans (hbq.mono HBWc.out.size))
         have HOV := Lib.hid hov
         have HLE := Lib.hid hle
         have HR2 := Lib.hid (Kd.R_lower (Kd.R_mono hov (ok' := fun _ => True) (fun _ _ => trivial)) (Nat.le_succ_of_le BX.out))
         clear hq1 hq2 hbq hov hle
         go_wp2_with (first
          | ((with_reducible refine gate_builtin (b := .append) (xs := #[.tmp 128, .tmp 129]) rfl ?_); at_builtin; refine Kd.R_append_rows (Kd.int .u8) (w0 := w) w.heap.size rfl (.tmp 128) (.tmp 129) 33 5 (.int .u8 0) 1 rfl Tryz.underlying33 infoU8 rfl (by decide) (by omega) _ (nums8 L) (nums8 (bodyM code out F)) _ _ _ (fun _ => True) (fun _ => False) rfl rfl ?aO ?aR (fun _ _ h => h) (fun _ h => h.elim) (fun _ _ => trivial) ?aB ?aS ?aL ?_; (case aO => exact HR2.out); (case aR => exact HQ2.out); (case aB => exact HBQ.out); (case aS => exact HBQ.out.size); (case aL => have h1 := HBL.out; have h2 := HL24.out; have h3 := HLE.out; simp only [nums8, List.length_map]; omega); intro v5 w5 ho hb hg_ hat_; clear hg_ hat_; have HO5 := Lib.hid ho; have HB5 := Lib.hid hb; clear ho hb))
         go_ret2
         have hfin := HO5.out
         rw [← nums8_append, HLL.out] at hfin
         exact ⟨_, _, rfl, by rw [HEB.out, mapB_pre]; exact Txt.of hfin (Nat.le_refl _), by rw [HEE.out]; rfl, HB5.out⟩
      ·have HNZ := Lib.hid h2
       obtain ⟨tp, etp⟩ : ∃ tp, n1 ||| 9223372036854775808 = tp := ⟨_, rfl⟩
       have htop := Lib.hid (show topBit (n1, n2) = tp by rw [topBit, if_neg h2, etp])
       have HTB := Lib.hid (show tp < 18446744073709551616 from etp ▸ or_top_lt HN1.out)
       have hq : ((((n2 : Nat) : Int)) != 0) = true := by simpa using h2
       have hor : bits BinOp.or IntKind.u64 (n1 : Int) 9223372036854775808 = ((tp : Nat) : Int) := etp ▸ or_top n1 hn1
       clear h2 etp
       go_wp2_with (simp only [hor])
       have hb1c := ((HB1.out.trans (HBc1.out.mono HB1.out.size)).setCell (p := ⟨M, 0, none⟩) (Nat.le_of_eq EM.out) (.int .u64 ((tp : Nat) : Int)))
       have HTc := Lib.hid (HT1.out.below hb1c)
       have HDMc := Lib.hid (HDM1.out.below hb1c)
       have HBDc := Lib.hid (HBDb.out.set (p := ⟨M, 0, none⟩) (Nat.lt_succ_self M) (.int .u64 ((tp : Nat) : Int)))
       have HOc := Lib.hid (HOb.out.set (p := ⟨M, 0, none⟩) (Nat.lt_succ_self M) (.int .u64 ((tp : Nat) : Int)))
       have HBWc := Lib.hid (HBWb.out.setCell (p := ⟨M, 0, none⟩) BX.out (.int .u64 ((tp : Nat) : Int)))
       have hmc : M + 1 ≤ (wb.setCell ⟨M, 0, none⟩ (.int .u64 ((tp : Nat) : Int))).heap.size := by simpa [World.setCell] using hmb
       obtain ⟨wc, ec⟩ : ∃ W, wb.setCell ⟨M, 0, none⟩ (.int .u64 ((tp : Nat) : Int)) = W := ⟨_, rfl⟩
       rw [ec] at HTc HDMc HBDc HOc HBWc hmc ⊢
       clear hb1c HBDb HTb HDMb HBWb HOb hmb g0 g1 z0 ec hor
       have ix0 := fun W => (idx_two (.int .u64 ((tp : Nat) : Int)) (.int .u64 ((n2 : Nat))) W).1
       have ix1 := fun W => (idx_two (.int .u64 ((tp : Nat) : Int)) (.int .u64 ((n2 : Nat))) W).2
       have HMc := Lib.hid (show M + 1 ≤ wc.heap.size from hmc)
       clear hmc
       go_loopw [14, 102] (fun ov i wq => ∃ j : Nat, j ≤ 2 ∧ i = .int .i64 j ∧ ∃ L, (Txt wq (M + 1) ov L ∧ L.length ≤ 3000 ∧ L = headM code ver ty ++ preM code (n1, n2) j) ∧ Below wc.heap.size wc wq) (fun _ i _ => 2 - (intOf i).toNat)
       case atStart => exact ⟨0, by decide, rfl, _, ⟨HOc.out, by have := head_small HCO.out HVE.out HTY.out; omega, by rw [preM0]; simp⟩, Below.refl _ _⟩
       case round =>
        obtain ⟨j, hj, rfl, L, ⟨hov, hle, hL⟩, hbq⟩ := hrel
        have HLL := Lib.hid hL
        clear hL
        have hj3 : j = 0 ∨ j = 1 ∨ j = 2 := by omega
        rcases hj3 with rfl | rfl | rfl
        ·have HLn := hexF_len 16 (tp)
         have HF := Lib.hid (formatU_16 ((HTc.out.below hbq).zeros) (tp) (HTB.out))
         have dmq := HDMc.out.below hbq
         obtain ⟨⟨t0, t1, t2⟩, t3⟩ := dmq
         have HBQ := Lib.hid hbq
         have HOV := Lib.hid hov
         have HLE := Lib.hid hle
         have HLN := Lib.hid HLn
         clear hbq hov hle HLn
         go_wp2_with fail
         refine HF.out.mono ?_
         rintro e x1 ⟨rfl, b1⟩
         have BQ1 := Lib.hid (HBQ.out.trans (b1.mono HBQ.out.size))
         have OV1 := Lib.hid (HOV.out.below b1)
         have dmq := HDMc.out.below BQ1.out
         obtain ⟨⟨t0, t1, t2⟩, t3⟩ := dmq
         clear b1
         go_wp2_with fail
         refine (bits_any code ver out).mono ?_
         rintro e x2 ⟨rfl, b2⟩
         have BQ2 := Lib.hid (BQ1.out.trans (b2.mono BQ1.out.size))
         have OV2 := Lib.hid (OV1.out.below b2)
         have hl16 : (hexN (tp)).length ≤ 16 := HLN.out
         clear b2
         go_wp2_with fail
         refine (rep_any (hexN (tp)).length hl16).mono ?_
         rintro e x3 ⟨rfl, b3⟩
         have BQ3 := Lib.hid (BQ2.out.trans (b3.mono BQ2.out.size))
         have OV3 := Lib.hid (OV2.out.below b3)
         clear b3
         go_wp2_with fail
         refine (put_hex OV3.out (Nat.le_trans HMc.out BQ3.out.size) HCO.out (tp) (by have := HLE.out; omega)).mono ?_
         rintro e x4 ⟨ov', rfl, ho4, b4⟩
         have BQ4 := Lib.hid (BQ3.out.trans (b4.mono BQ3.out.size))
         have OV4 := Lib.hid ho4
         clear b4 ho4
         go_wp2_with fail
         go_roundw
         case rel => exact ⟨0 + 1, by decide, by go_num, _, ⟨OV4.out, by have h1 := head_small HCO.out HVE.out HTY.out; have h2 := hex16_bytes HCO.out (tp); rw [List.length_append, HLL.out, preM0, List.append_nil]; omega, by rw [HLL.out, preM0, preM1, List.append_nil]; rw [htop.out]⟩, BQ4.out⟩
         case measure => simp [intOf]
        ·have HLn := hexF_len 16 (n2)
         have HF := Lib.hid (formatU_16 ((HTc.out.below hbq).zeros) (n2) (HN2.out))
         have dmq := HDMc.out.below hbq
         obtain ⟨⟨t0, t1, t2⟩, t3⟩ := dmq
         have HBQ := Lib.hid hbq
         have HOV := Lib.hid hov
         have HLE := Lib.hid hle
         have HLN := Lib.hid HLn
         clear hbq hov hle HLn
         go_wp2_with fail
         refine HF.out.mono ?_
         rintro e x1 ⟨rfl, b1⟩
         have BQ1 := Lib.hid (HBQ.out.trans (b1.mono HBQ.out.size))
         have OV1 := Lib.hid (HOV.out.below b1)
         have dmq := HDMc.out.below BQ1.out
         obtain ⟨⟨t0, t1, t2⟩, t3⟩ := dmq
         clear b1
         go_wp2_with fail
         refine (bits_any code ver out).mono ?_
         rintro e x2 ⟨rfl, b2⟩
         have BQ2 := Lib.hid (BQ1.out.trans (b2.mono BQ1.out.size))
         have OV2 := Lib.hid (OV1.out.below b2)
         have hl16 : (hexN (n2)).length ≤ 16 := HLN.out
         clear b2
         go_wp2_with fail
         refine (rep_any (hexN (n2)).length hl16).mono ?_
         rintro e x3 ⟨rfl, b3⟩
         have BQ3 := Lib.hid (BQ2.out.trans (b3.mono BQ2.out.size))
         have OV3 := Lib.hid (OV2.out.below b3)
         clear b3
         go_wp2_with fail
         refine (put_hex OV3.out (Nat.le_trans HMc.out BQ3.out.size) HCO.out (n2) (by have := HLE.out; omega)).mono ?_
         rintro e x4 ⟨ov', rfl, ho4, b4⟩
         have BQ4 := Lib.hid (BQ3.out.trans (b4.mono BQ3.out.size))
         have OV4 := Lib.hid ho4
         clear b4 ho4
         go_wp2_with fail
         go_roundw
         case rel => exact ⟨1 + 1, by decide, by go_num, _, ⟨OV4.out, by have h1 := head_small HCO.out HVE.out HTY.out; have h2 := hex16_bytes HCO.out (n2); have h3 := hex16_bytes HCO.out (topBit (n1, n2)); rw [List.length_append, HLL.out, List.length_append, preM1]; omega, by rw [HLL.out, preM2, if_neg HNZ.out, List.append_assoc]⟩, BQ4.out⟩
         case measure => simp [intOf]
        ·have HFIN := Lib.hid (HBDc.out.below hbq)
         obtain ⟨A, cc, rfl, hq1, hq2⟩ := HFIN.out.reads
         have HQ2 := Lib.hid hq2
         have HBQ := Lib.hid (HBWc.out.trans (hbq.mono HBWc.out.size))
         have HOV := Lib.hid hov
         have HLE := Lib.hid hle
         have HR2 := Lib.hid (Kd.R_lower (Kd.R_mono hov (ok' := fun _ => True) (fun _ _ => trivial)) (Nat.le_succ_of_le BX.out))
         clear hq1 hq2 hbq hov hle
         go_wp2_with (first
          | ((with_reducible refine gate_builtin (b := .append) (xs := #[.tmp 128, .tmp 129]) rfl ?_); at_builtin; refine Kd.R_append_rows (Kd.int .u8) (w0 := w) w.heap.size rfl (.tmp 128) (.tmp 129) 33 5 (.int .u8 0) 1 rfl Tryz.underlying33 infoU8 rfl (by decide) (by omega) _ (nums8 L) (nums8 (bodyM code out F)) _ _ _ (fun _ => True) (fun _ => False) rfl rfl ?aO ?aR (fun _ _ h => h) (fun _ h => h.elim) (fun _ _ => trivial) ?aB ?aS ?aL ?_; (case aO => exact HR2.out); (case aR => exact HQ2.out); (case aB => exact HBQ.out); (case aS => exact HBQ.out.size); (case aL => have h1 := HBL.out; have h2 := HL24.out; have h3 := HLE.out; simp only [nums8, List.length_map]; omega); intro v5 w5 ho hb hg_ hat_; clear hg_ hat_; have HO5 := Lib.hid ho; have HB5 := Lib.hid hb; clear ho hb))
         go_ret2
         have hfin := HO5.out
         rw [← nums8_append, HLL.out] at hfin
         exact ⟨_, _, rfl, by rw [HEB.out, mapB_pre]; exact Txt.of hfin (Nat.le_refl _), by rw [HEE.out]; rfl, HB5.out⟩
     ·go_simp
      refine (itoa_any (HT2.out.below HBc.out) ty HIT.out.1 HIT.out.2).mono ?_
      rintro e wa ⟨rfl, b1⟩
      have HBn := Lib.hid (HBc.out.trans (b1.mono HBc.out.size))
      try (have HK2 := Lib.hid ((b1.block _ (Array.getElem?_eq_some_iff.1 HKr.out).1).trans HKr.out); clear HKr; have HKr := HK2; clear HK2)
      clear b1 HBc
      have HBc := HBn
      clear HBn
      refine hK.out _ _ ((HDM.out.below HBc.out)) (fun hHeld => ?_)
      clear hK K
      try simp only [Act.put, List.setIfInBounds_toArray, List.set_cons_zero, List.set_cons_succ]
      refine wpAnyH_ready (rs := [4]) (by kernel_rfl) (by simp) (AllReadyH.cons (o := { dst := some 88, op := Op.convert 33 9 (Operand.tmp 87), type := 9, pos := _, after := _, guard := _ }) rfl (fun K hK => ?_) AllReadyH.nil)
      refine step_conv rfl (.tmp 87) rfl E ver (by have := HVE.out; omega) rfl HKr.out ?_
      refine hK.out _ _ ((HDM.out.below HBc.out)) (fun hHeld => ?_)
      clear hK K
      try simp only [Act.put, List.setIfInBounds_toArray, List.set_cons_zero, List.set_cons_succ]
      refine wpAnyH_take (i := 8) (oi := { dst := some 92, op := Op.binOp BinOp.add 9 (Operand.tmp 88) (Operand.tmp 91) 9, type := 9, pos := _, after := _, guard := _ }) (v := ?_) rfl (by kernel_rfl) (by kernel_rfl) (by kernel_rfl) (fun _ _ _ h => h) (Or.inl ⟨by rfl, ?hyhdx1307⟩) (by assumption) ?resthdx1307
      case hyhdx1307 => (intro w hSw; (try dsimp only at hSw); go_simp; try with_reducible rfl)
      try simp only [Act.put, List.setIfInBounds_toArray, List.set_cons_zero, List.set_cons_succ]
      refine wpAnyH_ready (rs := [9]) (by kernel_rfl) (by simp) (AllReadyH.cons (o := { dst := some 93, op := Op.call { callee := Callee.value (Operand.func 50), args := #[Operand.tmp 84, Operand.const (Value.slice none 0 0), Operand.tmp 92], argTypes := #[56, 33, 9] }, type := 33, pos := _, after := _, guard := _ }) rfl (fun K hK => ?_) AllReadyH.nil)
      go_simp
      refine (head_put out HCO.out HVE.out HTY.out).mono ?_
      rintro e wb ⟨hv0, rfl, ht0, b1⟩
      have HT0 := Lib.hid (Txt.of_lower ht0 HBc.out.size)
      have HBn := Lib.hid (HBc.out.trans (b1.mono HBc.out.size))
      clear b1 HBc ht0
      have HBc := HBn
      clear HBn
      refine hK.out _ _ ((HDM.out.below HBc.out)) (fun hHeld => ?_)
      clear hK K
      try simp only [Act.put, List.setIfInBounds_toArray, List.set_cons_zero, List.set_cons_succ]
      refine wpAnyH_take (i := 10) (oi := { dst := some 14, op := Op.assign (Operand.tmp 93), type := 33, pos := _, after := _, guard := _ }) (v := ?_) rfl (by kernel_rfl) (by kernel_rfl) (by kernel_rfl) (fun _ _ _ h => h) (Or.inl ⟨by rfl, ?hyhdx1322⟩) (by assumption) ?resthdx1322
      case hyhdx1322 => (intro w hSw; (try dsimp only at hSw); go_simp; try with_reducible rfl)
      try simp only [Act.put, List.setIfInBounds_toArray, List.set_cons_zero, List.set_cons_succ]
      refine wpAnyH_done (by kernel_rfl) ?_ _
      clear hHeld
      have kM := (HBc.out.block M HML.out).trans HHM.out
      have hmb : M + 1 ≤ wb.heap.size := Nat.lt_of_lt_of_le HML.out HBc.out.size
      have HBDb := Lib.hid (HBD.out.below HBc.out)
      have HTb := Lib.hid (HT2.out.below HBc.out)
      have HDMb := Lib.hid (HDM.out.below HBc.out)
      have HBWb := Lib.hid (HBW.out.trans (HBc.out.mono HBW.out.size))
      have HOb := Lib.hid (HT0.out.of_lower (lo' := M + 1) HML.out)
      have g0 : wb.cell? ⟨M, 0, none⟩ = some (.int .u64 n1) := cells_at kM 0
      have g1 : wb.cell? ⟨M, 1, none⟩ = some (.int .u64 n2) := cells_at kM 1
      have z0 : wb.frozen? ⟨M, 0, none⟩ = false := frozen_at kM 0
      have hn2 : n2 < 18446744073709551616 := HN2.out
      have hn1 : n1 < 18446744073709551616 := HN1.out
      have HBc1 := HBc
      clear kM HBc HT0 HBD HT2 HDM HBW HHM it3 HIT HHH HH4
      by_cases h2 : n2 = 0
      ·have HZZ := Lib.hid h2
       have htop := Lib.hid (show topBit (n1, n2) = n1 by rw [topBit, if_pos h2])
       have hq : ((n2 : Nat) : Int) = 0 := by omega
       rw [hq] at g1
       clear h2 hq
       go_wp2_with fail
       obtain ⟨wc, ec⟩ : ∃ W, wb = W := ⟨_, rfl⟩
       rw [ec] at HBDb HTb HDMb HBWb HOb hmb ⊢
       have HBDc := HBDb
       have HTc := HTb
       have HDMc := HDMb
       have HBWc := HBWb
       have HOc := HOb
       have hmc := hmb
       clear HBDb HTb HDMb HBWb HOb hmb g0 g1 z0 ec
       have ix0 := fun W => (idx_two (.int .u64 ((n1 : Nat) : Int)) (.int .u64 (0)) W).1
       have ix1 := fun W => (idx_two (.int .u64 ((n1 : Nat) : Int)) (.int .u64 (0)) W).2
       have HMc := Lib.hid (show M + 1 ≤ wc.heap.size from hmc)
       clear hmc
       go_loopw [14, 102] (fun ov i wq => ∃ j : Nat, j ≤ 2 ∧ i = .int .i64 j ∧ ∃ L, (Txt wq (M + 1) ov L ∧ L.length ≤ 3000 ∧ L = headM code ver ty ++ preM code (n1, n2) j) ∧ Below wc.heap.size wc wq) (fun _ i _ => 2 - (intOf i).toNat)
       case atStart => exact ⟨0, by decide, rfl, _, ⟨HOc.out, by have := head_small HCO.out HVE.out HTY.out; omega, by rw [preM0]; simp⟩, Below.refl _ _⟩
       case round =>
        obtain ⟨j, hj, rfl, L, ⟨hov, hle, hL⟩, hbq⟩ := hrel
        have HLL := Lib.hid hL
        clear hL
        have hj3 : j = 0 ∨ j = 1 ∨ j = 2 := by omega
        rcases hj3 with rfl | rfl | rfl
        ·have HLn := hexF_len 16 (n1)
         have HF := Lib.hid (formatU_16 ((HTc.out.below hbq).zeros) (n1) (HN1.out))
         have dmq := HDMc.out.below hbq
         obtain ⟨⟨t0, t1, t2⟩, t3⟩ := dmq
         have HBQ := Lib.hid hbq
         have HOV := Lib.hid hov
         have HLE := Lib.hid hle
         have HLN := Lib.hid HLn
         clear hbq hov hle HLn
         go_wp2_with fail
         refine HF.out.mono ?_
         rintro e x1 ⟨rfl, b1⟩
         have BQ1 := Lib.hid (HBQ.out.trans (b1.mono HBQ.out.size))
         have OV1 := Lib.hid (HOV.out.below b1)
         have dmq := HDMc.out.below BQ1.out
         obtain ⟨⟨t0, t1, t2⟩, t3⟩ := dmq
         clear b1
         go_wp2_with fail
         refine (bits_any code ver out).mono ?_
         rintro e x2 ⟨rfl, b2⟩
         have BQ2 := Lib.hid (BQ1.out.trans (b2.mono BQ1.out.size))
         have OV2 := Lib.hid (OV1.out.below b2)
         have hl16 : (hexN (n1)).length ≤ 16 := HLN.out
         clear b2
         go_wp2_with fail
         refine (rep_any (hexN (n1)).length hl16).mono ?_
         rintro e x3 ⟨rfl, b3⟩
         have BQ3 := Lib.hid (BQ2.out.trans (b3.mono BQ2.out.size))
         have OV3 := Lib.hid (OV2.out.below b3)
         clear b3
         go_wp2_with fail
         refine (put_hex OV3.out (Nat.le_trans HMc.out BQ3.out.size) HCO.out (n1) (by have := HLE.out; omega)).mono ?_
         rintro e x4 ⟨ov', rfl, ho4, b4⟩
         have BQ4 := Lib.hid (BQ3.out.trans (b4.mono BQ3.out.size))
         have OV4 := Lib.hid ho4
         clear b4 ho4
         go_wp2_with fail
         go_roundw
         case rel => exact ⟨0 + 1, by decide, by go_num, _, ⟨OV4.out, by have h1 := head_small HCO.out HVE.out HTY.out; have h2 := hex16_bytes HCO.out (n1); rw [List.length_append, HLL.out, preM0, List.append_nil]; omega, by rw [HLL.out, preM0, preM1, List.append_nil]; rw [htop.out]⟩, BQ4.out⟩
         case measure => simp [intOf]
        ·have HBQ := Lib.hid hbq
         have HOV := Lib.hid hov
         have HLE := Lib.hid hle
         clear hbq hov hle
         go_wp2_with fail
         go_roundw
         case rel => exact ⟨2, by decide, by go_num, _, ⟨HOV.out, HLE.out, by rw [HLL.out, preM2, if_pos HZZ.out, List.append_nil]⟩, HBQ.out⟩
         case measure => simp [intOf]
        ·have HFIN := Lib.hid (HBDc.out.below hbq)
         obtain ⟨A, cc, rfl, hq1, hq2⟩ := HFIN.out.reads
         have HQ2 := Lib.hid hq2
         have HBQ := Lib.hid (HBWc.out.trans (hbq.mono HBWc.out.size))
         have HOV := Lib.hid hov
         have HLE := Lib.hid hle
         have HR2 := Lib.hid (Kd.R_lower (Kd.R_mono hov (ok' := fun _ => True) (fun _ _ => trivial)) (Nat.le_succ_of_le BX.out))
         clear hq1 hq2 hbq hov hle
         go_wp2_with (first
          | ((with_reducible refine gate_builtin (b := .append) (xs := #[.tmp 128, .tmp 129]) rfl ?_); at_builtin; refine Kd.R_append_rows (Kd.int .u8) (w0 := w) w.heap.size rfl (.tmp 128) (.tmp 129) 33 5 (.int .u8 0) 1 rfl Tryz.underlying33 infoU8 rfl (by decide) (by omega) _ (nums8 L) (nums8 (bodyM code out F)) _ _ _ (fun _ => True) (fun _ => False) rfl rfl ?aO ?aR (fun _ _ h => h) (fun _ h => h.elim) (fun _ _ => trivial) ?aB ?aS ?aL ?_; (case aO => exact HR2.out); (case aR => exact HQ2.out); (case aB => exact HBQ.out); (case aS => exact HBQ.out.size); (case aL => have h1 := HBL.out; have h2 := HL24.out; have h3 := HLE.out; simp only [nums8, List.length_map]; omega); intro v5 w5 ho hb hg_ hat_; clear hg_ hat_; have HO5 := Lib.hid ho; have HB5 := Lib.hid hb; clear ho hb))
         go_ret2
         have hfin := HO5.out
         rw [← nums8_append, HLL.out] at hfin
         exact ⟨_, _, rfl, by rw [HEB.out, mapB_pre]; exact Txt.of hfin (Nat.le_refl _), by rw [HEE.out]; rfl, HB5.out⟩
      ·have HNZ := Lib.hid h2
       obtain ⟨tp, etp⟩ : ∃ tp, n1 ||| 9223372036854775808 = tp := ⟨_, rfl⟩
       have htop := Lib.hid (show topBit (n1, n2) = tp by rw [topBit, if_neg h2, etp])
       have HTB := Lib.hid (show tp < 18446744073709551616 from etp ▸ or_top_lt HN1.out)
       have hq : ((((n2 : Nat) : Int)) != 0) = true := by simpa using h2
       have hor : bits BinOp.or IntKind.u64 (n1 : Int) 9223372036854775808 = ((tp : Nat) : Int) := etp ▸ or_top n1 hn1
       clear h2 etp
       go_wp2_with (simp only [hor])
       have hb1c := ((HB1.out.trans (HBc1.out.mono HB1.out.size)).setCell (p := ⟨M, 0, none⟩) (Nat.le_of_eq EM.out) (.int .u64 ((tp : Nat) : Int)))
       have HTc := Lib.hid (HT1.out.below hb1c)
       have HDMc := Lib.hid (HDM1.out.below hb1c)
       have HBDc := Lib.hid (HBDb.out.set (p := ⟨M, 0, none⟩) (Nat.lt_succ_self M) (.int .u64 ((tp : Nat) : Int)))
       have HOc := Lib.hid (HOb.out.set (p := ⟨M, 0, none⟩) (Nat.lt_succ_self M) (.int .u64 ((tp : Nat) : Int)))
       have HBWc := Lib.hid (HBWb.out.setCell (p := ⟨M, 0, none⟩) BX.out (.int .u64 ((tp : Nat) : Int)))
       have hmc : M + 1 ≤ (wb.setCell ⟨M, 0, none⟩ (.int .u64 ((tp : Nat) : Int))).heap.size := by simpa [World.setCell] using hmb
       obtain ⟨wc, ec⟩ : ∃ W, wb.setCell ⟨M, 0, none⟩ (.int .u64 ((tp : Nat) : Int)) = W := ⟨_, rfl⟩
       rw [ec] at HTc HDMc HBDc HOc HBWc hmc ⊢
       clear hb1c HBDb HTb HDMb HBWb HOb hmb g0 g1 z0 ec hor
       have ix0 := fun W => (idx_two (.int .u64 ((tp : Nat) : Int)) (.int .u64 ((n2 : Nat))) W).1
       have ix1 := fun W => (idx_two (.int .u64 ((tp : Nat) : Int)) (.int .u64 ((n2 : Nat))) W).2
       have HMc := Lib.hid (show M + 1 ≤ wc.heap.size from hmc)
       clear hmc
       go_loopw [14, 102] (fun ov i wq => ∃ j : Nat, j ≤ 2 ∧ i = .int .i64 j ∧ ∃ L, (Txt wq (M + 1) ov L ∧ L.length ≤ 3000 ∧ L = headM code ver ty ++ preM code (n1, n2) j) ∧ Below wc.heap.size wc wq) (fun _ i _ => 2 - (intOf i).toNat)
       case atStart => exact ⟨0, by decide, rfl, _, ⟨HOc.out, by have := head_small HCO.out HVE.out HTY.out; omega, by rw [preM0]; simp⟩, Below.refl _ _⟩
       case round =>
        obtain ⟨j, hj, rfl, L, ⟨hov, hle, hL⟩, hbq⟩ := hrel
        have HLL := Lib.hid hL
        clear hL
        have hj3 : j = 0 ∨ j = 1 ∨ j = 2 := by omega
        rcases hj3 with rfl | rfl | rfl
        ·have HLn := hexF_len 16 (tp)
         have HF := Lib.hid (formatU_16 ((HTc.out.below hbq).zeros) (tp) (HTB.out))
         have dmq := HDMc.out.below hbq
         obtain ⟨⟨t0, t1, t2⟩, t3⟩ := dmq
         have HBQ := Lib.hid hbq
         have HOV := Lib.hid hov
         have HLE := Lib.hid hle
         have HLN := Lib.hid HLn
         clear hbq hov hle HLn
         go_wp2_with fail
         refine HF.out.mono ?_
         rintro e x1 ⟨rfl, b1⟩
         have BQ1 := Lib.hid (HBQ.out.trans (b1.mono HBQ.out.size))
         have OV1 := Lib.hid (HOV.out.below b1)
         have dmq := HDMc.out.below BQ1.out
         obtain ⟨⟨t0, t1, t2⟩, t3⟩ := dmq
         clear b1
         go_wp2_with fail
         refine (bits_any code ver out).mono ?_
         rintro e x2 ⟨rfl, b2⟩
         have BQ2 := Lib.hid (BQ1.out.trans (b2.mono BQ1.out.size))
         have OV2 := Lib.hid (OV1.out.below b2)
         have hl16 : (hexN (tp)).length ≤ 16 := HLN.out
         clear b2
         go_wp2_with fail
         refine (rep_any (hexN (tp)).length hl16).mono ?_
         rintro e x3 ⟨rfl, b3⟩
         have BQ3 := Lib.hid (BQ2.out.trans (b3.mono BQ2.out.size))
         have OV3 := Lib.hid (OV2.out.below b3)
         clear b3
         go_wp2_with fail
         refine (put_hex OV3.out (Nat.le_trans HMc.out BQ3.out.size) HCO.out (tp) (by have := HLE.out; omega)).mono ?_
         rintro e x4 ⟨ov', rfl, ho4, b4⟩
         have BQ4 := Lib.hid (BQ3.out.trans (b4.mono BQ3.out.size))
         have OV4 := Lib.hid ho4
         clear b4 ho4
         go_wp2_with fail
         go_roundw
         case rel => exact ⟨0 + 1, by decide, by go_num, _, ⟨OV4.out, by have h1 := head_small HCO.out HVE.out HTY.out; have h2 := hex16_bytes HCO.out (tp); rw [List.length_append, HLL.out, preM0, List.append_nil]; omega, by rw [HLL.out, preM0, preM1, List.append_nil]; rw [htop.out]⟩, BQ4.out⟩
         case measure => simp [intOf]
        ·have HLn := hexF_len 16 (n2)
         have HF := Lib.hid (formatU_16 ((HTc.out.below hbq).zeros) (n2) (HN2.out))
         have dmq := HDMc.out.below hbq
         obtain ⟨⟨t0, t1, t2⟩, t3⟩ := dmq
         have HBQ := Lib.hid hbq
         have HOV := Lib.hid hov
         have HLE := Lib.hid hle
         have HLN := Lib.hid HLn
         clear hbq hov hle HLn
         go_wp2_with fail
         refine HF.out.mono ?_
         rintro e x1 ⟨rfl, b1⟩
         have BQ1 := Lib.hid (HBQ.out.trans (b1.mono HBQ.out.size))
         have OV1 := Lib.hid (HOV.out.below b1)
         have dmq := HDMc.out.below BQ1.out
         obtain ⟨⟨t0, t1, t2⟩, t3⟩ := dmq
         clear b1
         go_wp2_with fail
         refine (bits_any code ver out).mono ?_
         rintro e x2 ⟨rfl, b2⟩
         have BQ2 := Lib.hid (BQ1.out.trans (b2.mono BQ1.out.size))
         have OV2 := Lib.hid (OV1.out.below b2)
         have hl16 : (hexN (n2)).length ≤ 16 := HLN.out
         clear b2
         go_wp2_with fail
         refine (rep_any (hexN (n2)).length hl16).mono ?_
         rintro e x3 ⟨rfl, b3⟩
         have BQ3 := Lib.hid (BQ2.out.trans (b3.mono BQ2.out.size))
         have OV3 := Lib.hid (OV2.out.below b3)
         clear b3
         go_wp2_with fail
         refine (put_hex OV3.out (Nat.le_trans HMc.out BQ3.out.size) HCO.out (n2) (by have := HLE.out; omega)).mono ?_
         rintro e x4 ⟨ov', rfl, ho4, b4⟩
         have BQ4 := Lib.hid (BQ3.out.trans (b4.mono BQ3.out.size))
         have OV4 := Lib.hid ho4
         clear b4 ho4
         go_wp2_with fail
         go_roundw
         case rel => exact ⟨1 + 1, by decide, by go_num, _, ⟨OV4.out, by have h1 := head_small HCO.out HVE.out HTY.out; have h2 := hex16_bytes HCO.out (n2); have h3 := hex16_bytes HCO.out (topBit (n1, n2)); rw [List.length_append, HLL.out, List.length_append, preM1]; omega, by rw [HLL.out, preM2, if_neg HNZ.out, List.append_assoc]⟩, BQ4.out⟩
         case measure => simp [intOf]
        ·have HFIN := Lib.hid (HBDc.out.below hbq)
         obtain ⟨A, cc, rfl, hq1, hq2⟩ := HFIN.out.reads
         have HQ2 := Lib.hid hq2
         have HBQ := Lib.hid (HBWc.out.trans (hbq.mono HBWc.out.size))
         have HOV := Lib.hid hov
         have HLE := Lib.hid hle
         have HR2 := Lib.hid (Kd.R_lower (Kd.R_mono hov (ok' := fun _ => True) (fun _ _ => trivial)) (Nat.le_succ_of_le BX.out))
         clear hq1 hq2 hbq hov hle
         go_wp2_with (first
          | ((with_reducible refine gate_builtin (b := .append) (xs := #[.tmp 128, .tmp 129]) rfl ?_); at_builtin; refine Kd.R_append_rows (Kd.int .u8) (w0 := w) w.heap.size rfl (.tmp 128) (.tmp 129) 33 5 (.int .u8 0) 1 rfl Tryz.underlying33 infoU8 rfl (by decide) (by omega) _ (nums8 L) (nums8 (bodyM code out F)) _ _ _ (fun _ => True) (fun _ => False) rfl rfl ?aO ?aR (fun _ _ h => h) (fun _ h => h.elim) (fun _ _ => trivial) ?aB ?aS ?aL ?_; (case aO => exact HR2.out); (case aR => exact HQ2.out); (case aB => exact HBQ.out); (case aS => exact HBQ.out.size); (case aL => have h1 := HBL.out; have h2 := HL24.out; have h3 := HLE.out; simp only [nums8, List.length_map]; omega); intro v5 w5 ho hb hg_ hat_; clear hg_ hat_; have HO5 := Lib.hid ho; have HB5 := Lib.hid hb; clear ho hb))
         go_ret2
         have hfin := HO5.out
         rw [← nums8_append, HLL.out] at hfin
         exact ⟨_, _, rfl, by rw [HEB.out, mapB_pre]; exact Txt.of hfin (Nat.le_refl _), by rw [HEE.out]; rfl, HB5.out⟩
    ·go_simp
     refine (itoa_any (HT2.out.below HBc.out) ty HIT.out.1 HIT.out.2).mono ?_
     rintro e wa ⟨rfl, b1⟩
     have HBn := Lib.hid (HBc.out.trans (b1.mono HBc.out.size))
     try (have HK2 := Lib.hid ((b1.block _ (Array.getElem?_eq_some_iff.1 HKr.out).1).trans HKr.out); clear HKr; have HKr := HK2; clear HK2)
     clear b1 HBc
     have HBc := HBn
     clear HBn
     refine hK.out _ _ ((HDM.out.below HBc.out)) (fun hHeld => ?_)
     clear hK K
     try simp only [Act.put, List.setIfInBounds_toArray, List.set_cons_zero, List.set_cons_succ]
     refine wpAnyH_ready (rs := [3]) (by kernel_rfl) (by simp) (AllReadyH.cons (o := { dst := some 87, op := Op.buildSlice 33 1 #[(0, Operand.tmp 86)], type := 33, pos := _, after := _, guard := _ }) rfl (fun K hK => ?_) AllReadyH.nil)
     refine step_bs1 rfl (.tmp 86) rfl ver rfl (fun E wn hb hk => ?_)
     have HBn := Lib.hid (HBc.out.trans (hb.mono HBc.out.size))
     have HKr := Lib.hid hk
     clear hb HBc hk
     have HBc := HBn
     clear HBn
     refine hK.out _ _ ((HDM.out.below HBc.out)) (fun hHeld => ?_)
     clear hK K
     try simp only [Act.put, List.setIfInBounds_toArray, List.set_cons_zero, List.set_cons_succ]
     refine wpAnyH_ready (rs := [4]) (by kernel_rfl) (by simp) (AllReadyH.cons (o := { dst := some 88, op := Op.convert 33 9 (Operand.tmp 87), type := 9, pos := _, after := _, guard := _ }) rfl (fun K hK => ?_) AllReadyH.nil)
     refine step_conv rfl (.tmp 87) rfl E ver (by have := HVE.out; omega) rfl HKr.out ?_
     refine hK.out _ _ ((HDM.out.below HBc.out)) (fun hHeld => ?_)
     clear hK K
     try simp only [Act.put, List.setIfInBounds_toArray, List.set_cons_zero, List.set_cons_succ]
     refine wpAnyH_take (i := 8) (oi := { dst := some 92, op := Op.binOp BinOp.add 9 (Operand.tmp 88) (Operand.tmp 91) 9, type := 9, pos := _, after := _, guard := _ }) (v := ?_) rfl (by kernel_rfl) (by kernel_rfl) (by kernel_rfl) (fun _ _ _ h => h) (Or.inl ⟨by rfl, ?hyhdx1581⟩) (by assumption) ?resthdx1581
     case hyhdx1581 => (intro w hSw; (try dsimp only at hSw); go_simp; try with_reducible rfl)
     try simp only [Act.put, List.setIfInBounds_toArray, List.set_cons_zero, List.set_cons_succ]
     refine wpAnyH_ready (rs := [9]) (by kernel_rfl) (by simp) (AllReadyH.cons (o := { dst := some 93, op := Op.call { callee := Callee.value (Operand.func 50), args := #[Operand.tmp 84, Operand.const (Value.slice none 0 0), Operand.tmp 92], argTypes := #[56, 33, 9] }, type := 33, pos := _, after := _, guard := _ }) rfl (fun K hK => ?_) AllReadyH.nil)
     go_simp
     refine (head_put out HCO.out HVE.out HTY.out).mono ?_
     rintro e wb ⟨hv0, rfl, ht0, b1⟩
     have HT0 := Lib.hid (Txt.of_lower ht0 HBc.out.size)
     have HBn := Lib.hid (HBc.out.trans (b1.mono HBc.out.size))
     clear b1 HBc ht0
     have HBc := HBn
     clear HBn
     refine hK.out _ _ ((HDM.out.below HBc.out)) (fun hHeld => ?_)
     clear hK K
     try simp only [Act.put, List.setIfInBounds_toArray, List.set_cons_zero, List.set_cons_succ]
     refine wpAnyH_take (i := 10) (oi := { dst := some 14, op := Op.assign (Operand.tmp 93), type := 33, pos := _, after := _, guard := _ }) (v := ?_) rfl (by kernel_rfl) (by kernel_rfl) (by kernel_rfl) (fun _ _ _ h => h) (Or.inl ⟨by rfl, ?hyhdx1596⟩) (by assumption) ?resthdx1596
     case hyhdx1596 => (intro w hSw; (try dsimp only at hSw); go_simp; try with_reducible rfl)
     try simp only [Act.put, List.setIfInBounds_toArray, List.set_cons_zero, List.set_cons_succ]
     refine wpAnyH_done (by kernel_rfl) ?_ _
     clear hHeld
     have kM := (HBc.out.block M HML.out).trans HHM.out
     have hmb : M + 1 ≤ wb.heap.size := Nat.lt_of_lt_of_le HML.out HBc.out.size
     have HBDb := Lib.hid (HBD.out.below HBc.out)
     have HTb := Lib.hid (HT2.out.below HBc.out)
     have HDMb := Lib.hid (HDM.out.below HBc.out)
     have HBWb := Lib.hid (HBW.out.trans (HBc.out.mono HBW.out.size))
     have HOb := Lib.hid (HT0.out.of_lower (lo' := M + 1) HML.out)
     have g0 : wb.cell? ⟨M, 0, none⟩ = some (.int .u64 n1) := cells_at kM 0
     have g1 : wb.cell? ⟨M, 1, none⟩ = some (.int .u64 n2) := cells_at kM 1
     have z0 : wb.frozen? ⟨M, 0, none⟩ = false := frozen_at kM 0
     have hn2 : n2 < 18446744073709551616 := HN2.out
     have hn1 : n1 < 18446744073709551616 := HN1.out
     have HBc1 := HBc
     clear kM HBc HT0 HBD HT2 HDM HBW HHM it3 HIT HHH HH4
     by_cases h2 : n2 = 0
     ·have HZZ := Lib.hid h2
      have htop := Lib.hid (show topBit (n1, n2) = n1 by rw [topBit, if_pos h2])
      have hq : ((n2 : Nat) : Int) = 0 := by omega
      rw [hq] at g1
      clear h2 hq
      go_wp2_with fail
      obtain ⟨wc, ec⟩ : ∃ W, wb = W := ⟨_, rfl⟩
      rw [ec] at HBDb HTb HDMb HBWb HOb hmb ⊢
      have HBDc := HBDb
      have HTc := HTb
      have HDMc := HDMb
      have HBWc := HBWb
      have HOc := HOb
      have hmc := hmb
      clear HBDb HTb HDMb HBWb HOb hmb g0 g1 z0 ec
      have ix0 := fun W => (idx_two (.int .u64 ((n1 : Nat) : Int)) (.int .u64 (0)) W).1
      have ix1 := fun W => (idx_two (.int .u64 ((n1 : Nat) : Int)) (.int .u64 (0)) W).2
      have HMc := Lib.hid (show M + 1 ≤ wc.heap.size from hmc)
      clear hmc
      go_loopw [14, 102] (fun ov i wq => ∃ j : Nat, j ≤ 2 ∧ i = .int .i64 j ∧ ∃ L, (Txt wq (M + 1) ov L ∧ L.length ≤ 3000 ∧ L = headM code ver ty ++ preM code (n1, n2) j) ∧ Below wc.heap.size wc wq) (fun _ i _ => 2 - (intOf i).toNat)
      case atStart => exact ⟨0, by decide, rfl, _, ⟨HOc.out, by have := head_small HCO.out HVE.out HTY.out; omega, by rw [preM0]; simp⟩, Below.refl _ _⟩
      case round =>
       obtain ⟨j, hj, rfl, L, ⟨hov, hle, hL⟩, hbq⟩ := hrel
       have HLL := Lib.hid hL
       clear hL
       have hj3 : j = 0 ∨ j = 1 ∨ j = 2 := by omega
       rcases hj3 with rfl | rfl | rfl
       ·have HLn := hexF_len 16 (n1)
        have HF := Lib.hid (formatU_16 ((HTc.out.below hbq).zeros) (n1) (HN1.out))
        have dmq := HDMc.out.below hbq
        obtain ⟨⟨t0, t1, t2⟩, t3⟩ := dmq
        have HBQ := Lib.hid hbq
        have HOV := Lib.hid hov
        have HLE := Lib.hid hle
        have HLN := Lib.hid HLn
        clear hbq hov hle HLn
        go_wp2_with fail
        refine HF.out.mono ?_
        rintro e x1 ⟨rfl, b1⟩
        have BQ1 := Lib.hid (HBQ.out.trans (b1.mono HBQ.out.size))
        have OV1 := Lib.hid (HOV.out.below b1)
        have dmq := HDMc.out.below BQ1.out
        obtain ⟨⟨t0, t1, t2⟩, t3⟩ := dmq
        clear b1
        go_wp2_with fail
        refine (bits_any code ver out).mono ?_
        rintro e x2 ⟨rfl, b2⟩
        have BQ2 := Lib.hid (BQ1.out.trans (b2.mono BQ1.out.size))
        have OV2 := Lib.hid (OV1.out.below b2)
        have hl16 : (hexN (n1)).length ≤ 16 := HLN.out
        clear b2
        go_wp2_with fail
        refine (rep_any (hexN (n1)).length hl16).mono ?_
        rintro e x3 ⟨rfl, b3⟩
        have BQ3 := Lib.hid (BQ2.out.trans (b3.mono BQ2.out.size))
        have OV3 := Lib.hid (OV2.out.below b3)
        clear b3
        go_wp2_with fail
        refine (put_hex OV3.out (Nat.le_trans HMc.out BQ3.out.size) HCO.out (n1) (by have := HLE.out; omega)).mono ?_
        rintro e x4 ⟨ov', rfl, ho4, b4⟩
        have BQ4 := Lib.hid (BQ3.out.trans (b4.mono BQ3.out.size))
        have OV4 := Lib.hid ho4
        clear b4 ho4
        go_wp2_with fail
        go_roundw
        case rel => exact ⟨0 + 1, by decide, by go_num, _, ⟨OV4.out, by have h1 := head_small HCO.out HVE.out HTY.out; have h2 := hex16_bytes HCO.out (n1); rw [List.length_append, HLL.out, preM0, List.append_nil]; omega, by rw [HLL.out, preM0, preM1, List.append_nil]; rw [htop.out]⟩, BQ4.out⟩
        case measure => simp [intOf]
       ·have HBQ := Lib.hid hbq
        have HOV := Lib.hid hov
        have HLE := Lib.hid hle
        clear hbq hov hle
        go_wp2_with fail
        go_roundw
        case rel => exact ⟨2, by decide, by go_num, _, ⟨HOV.out, HLE.out, by rw [HLL.out, preM2, if_pos HZZ.out, List.append_nil]⟩, HBQ.out⟩
        case measure => simp [intOf]
       ·have HFIN := Lib.hid (HBDc.out.below hbq)
        obtain ⟨A, cc, rfl, hq1, hq2⟩ := HFIN.out.reads
        have HQ2 := Lib.hid hq2
        have HBQ := Lib.hid (HBWc.out.trans (hbq.mono HBWc.out.size))
        have HOV := Lib.hid hov
        have HLE := Lib.hid hle
        have HR2 := Lib.hid (Kd.R_lower (Kd.R_mono hov (ok' := fun _ => True) (fun _ _ => trivial)) (Nat.le_succ_of_le BX.out))
        clear hq1 hq2 hbq hov hle
        go_wp2_with (first
         | ((with_reducible refine gate_builtin (b := .append) (xs := #[.tmp 128, .tmp 129]) rfl ?_); at_builtin; refine Kd.R_append_rows (Kd.int .u8) (w0 := w) w.heap.size rfl (.tmp 128) (.tmp 129) 33 5 (.int .u8 0) 1 rfl Tryz.underlying33 infoU8 rfl (by decide) (by omega) _ (nums8 L) (nums8 (bodyM code out F)) _ _ _ (fun _ => True) (fun _ => False) rfl rfl ?aO ?aR (fun _ _ h => h) (fun _ h => h.elim) (fun _ _ => trivial) ?aB ?aS ?aL ?_; (case aO => exact HR2.out); (case aR => exact HQ2.out); (case aB => exact HBQ.out); (case aS => exact HBQ.out.size); (case aL => have h1 := HBL.out; have h2 := HL24.out; have h3 := HLE.out; simp only [nums8, List.length_map]; omega); intro v5 w5 ho hb hg_ hat_; clear hg_ hat_; have HO5 := Lib.hid ho; have HB5 := Lib.hid hb; clear ho hb))
        go_ret2
        have hfin := HO5.out
        rw [← nums8_append, HLL.out] at hfin
        exact ⟨_, _, rfl, by rw [HEB.out, mapB_pre]; exact Txt.of hfin (Nat.le_refl _), by rw [HEE.out]; rfl, HB5.out⟩
     ·have HNZ := Lib.hid h2
      obtain ⟨tp, etp⟩ : ∃ tp, n1 ||| 9223372036854775808 = tp := ⟨_, rfl⟩
      have htop := Lib.hid (show topBit (n1, n2) = tp by rw [topBit, if_neg h2, etp])
      have HTB := Lib.hid (show tp < 18446744073709551616 from etp ▸ or_top_lt HN1.out)
      have hq : ((((n2 : Nat) : Int)) != 0) = true := by simpa using h2
      have hor : bits BinOp.or IntKind.u64 (n1 : Int) 9223372036854775808 = ((tp : Nat) : Int) := etp ▸ or_top n1 hn1
      clear h2 etp
      go_wp2_with (simp only [hor])
      have hb1c := ((HB1.out.trans (HBc1.out.mono HB1.out.size)).setCell (p := ⟨M, 0, none⟩) (Nat.le_of_eq EM.out) (.int .u64 ((tp : Nat) : Int)))
      have HTc := Lib.hid (HT1.out.below hb1c)
      have HDMc := Lib.hid (HDM1.out.below hb1c)
      have HBDc := Lib.hid (HBDb.out.set (p := ⟨M, 0, none⟩) (Nat.lt_succ_self M) (.int .u64 ((tp : Nat) : Int)))
      have HOc := Lib.hid (HOb.out.set (p := ⟨M, 0, none⟩) (Nat.lt_succ_self M) (.int .u64 ((tp : Nat) : Int)))
      have HBWc := Lib.hid (HBWb.out.setCell (p := ⟨M, 0, none⟩) BX.out (.int .u64 ((tp : Nat) : Int)))
      have hmc : M + 1 ≤ (wb.setCell ⟨M, 0, none⟩ (.int .u64 ((tp : Nat) : Int))).heap.size := by simpa [World.setCell] using hmb
      obtain ⟨wc, ec⟩ : ∃ W, wb.setCell ⟨M, 0, none⟩ (.int .u64 ((tp : Nat) : Int)) = W := ⟨_, rfl⟩
      rw [ec] at HTc HDMc HBDc HOc HBWc hmc ⊢
      clear hb1c HBDb HTb HDMb HBWb HOb hmb g0 g1 z0 ec hor
      have ix0 := fun W => (idx_two (.int .u64 ((tp : Nat) : Int)) (.int .u64 ((n2 : Nat))) W).1
      have ix1 := fun W => (idx_two (.int .u64 ((tp : Nat) : Int)) (.int .u64 ((n2 : Nat))) W).2
      have HMc := Lib.hid (show M + 1 ≤ wc.heap.size from hmc)
      clear hmc
      go_loopw [14, 102] (fun ov i wq => ∃ j : Nat, j ≤ 2 ∧ i = .int .i64 j ∧ ∃ L, (Txt wq (M + 1) ov L ∧ L.length ≤ 3000 ∧ L = headM code ver ty ++ preM code (n1, n2) j) ∧ Below wc.heap.size wc wq) (fun _ i _ => 2 - (intOf i).toNat)
      case atStart => exact ⟨0, by decide, rfl, _, ⟨HOc.out, by have := head_small HCO.out HVE.out HTY.out; omega, by rw [preM0]; simp⟩, Below.refl _ _⟩
      case round =>
       obtain ⟨j, hj, rfl, L, ⟨hov, hle, hL⟩, hbq⟩ := hrel
       have HLL := Lib.hid hL
       clear hL
       have hj3 : j = 0 ∨ j = 1 ∨ j = 2 := by omega
       rcases hj3 with rfl | rfl | rfl
       ·have HLn := hexF_len 16 (tp)
        have HF := Lib.hid (formatU_16 ((HTc.out.below hbq).zeros) (tp) (HTB.out))
        have dmq := HDMc.out.below hbq
        obtain ⟨⟨t0, t1, t2⟩, t3⟩ := dmq
        have HBQ := Lib.hid hbq
        have HOV := Lib.hid hov
        have HLE := Lib.hid hle
        have HLN := Lib.hid HLn
        clear hbq hov hle HLn
        go_wp2_with fail
        refine HF.out.mono ?_
        rintro e x1 ⟨rfl, b1⟩
        have BQ1 := Lib.hid (HBQ.out.trans (b1.mono HBQ.out.size))
        have OV1 := Lib.hid (HOV.out.below b1)
        have dmq := HDMc.out.below BQ1.out
        obtain ⟨⟨t0, t1, t2⟩, t3⟩ := dmq
        clear b1
        go_wp2_with fail
        refine (bits_any code ver out).mono ?_
        rintro e x2 ⟨rfl, b2⟩
        have BQ2 := Lib.hid (BQ1.out.trans (b2.mono BQ1.out.size))
        have OV2 := Lib.hid (OV1.out.below b2)
        have hl16 : (hexN (tp)).length ≤ 16 := HLN.out
        clear b2
        go_wp2_with fail
        refine (rep_any (hexN (tp)).length hl16).mono ?_
        rintro e x3 ⟨rfl, b3⟩
        have BQ3 := Lib.hid (BQ2.out.trans (b3.mono BQ2.out.size))
        have OV3 := Lib.hid (OV2.out.below b3)
        clear b3
        go_wp2_with fail
        refine (put_hex OV3.out (Nat.le_trans HMc.out BQ3.out.size) HCO.out (tp) (by have := HLE.out; omega)).mono ?_
        rintro e x4 ⟨ov', rfl, ho4, b4⟩
        have BQ4 := Lib.hid (BQ3.out.trans (b4.mono BQ3.out.size))
        have OV4 := Lib.hid ho4
        clear b4 ho4
        go_wp2_with fail
        go_roundw
        case rel => exact ⟨0 + 1, by decide, by go_num, _, ⟨OV4.out, by have h1 := head_small HCO.out HVE.out HTY.out; have h2 := hex16_bytes HCO.out (tp); rw [List.length_append, HLL.out, preM0, List.append_nil]; omega, by rw [HLL.out, preM0, preM1, List.append_nil]; rw [htop.out]⟩, BQ4.out⟩
        case measure => simp [intOf]
       ·have HLn := hexF_len 16 (n2)
        have HF := Lib.hid (formatU_16 ((HTc.out.below hbq).zeros) (n2) (HN2.out))
        have dmq := HDMc.out.below hbq
        obtain ⟨⟨t0, t1, t2⟩, t3⟩ := dmq
        have HBQ := Lib.hid hbq
        have HOV := Lib.hid hov
        have HLE := Lib.hid hle
        have HLN := Lib.hid HLn
        clear hbq hov hle HLn
        go_wp2_with fail
        refine HF.out.mono ?_
        rintro e x1 ⟨rfl, b1⟩
        have BQ1 := Lib.hid (HBQ.out.trans (b1.mono HBQ.out.size))
        have OV1 := Lib.hid (HOV.out.below b1)
        have dmq := HDMc.out.below BQ1.out
        obtain ⟨⟨t0, t1, t2⟩, t3⟩ := dmq
        clear b1
        go_wp2_with fail
        refine (bits_any code ver out).mono ?_
        rintro e x2 ⟨rfl, b2⟩
        have BQ2 := Lib.hid (BQ1.out.trans (b2.mono BQ1.out.size))
        have OV2 := Lib.hid (OV1.out.below b2)
        have hl16 : (hexN (n2)).length ≤ 16 := HLN.out
        clear b2
        go_wp2_with fail
        refine (rep_any (hexN (n2)).length hl16).mono ?_
        rintro e x3 ⟨rfl, b3⟩
        have BQ3 := Lib.hid (BQ2.out.trans (b3.mono BQ2.out.size))
        have OV3 := Lib.hid (OV2.out.below b3)
        clear b3
        go_wp2_with fail
        refine (put_hex OV3.out (Nat.le_trans HMc.out BQ3.out.size) HCO.out (n2) (by have := HLE.out; omega)).mono ?_
        rintro e x4 ⟨ov', rfl, ho4, b4⟩
        have BQ4 := Lib.hid (BQ3.out.trans (b4.mono BQ3.out.size))
        have OV4 := Lib.hid ho4
        clear b4 ho4
        go_wp2_with fail
        go_roundw
        case rel => exact ⟨1 + 1, by decide, by go_num, _, ⟨OV4.out, by have h1 := head_small HCO.out HVE.out HTY.out; have h2 := hex16_bytes HCO.out (n2); have h3 := hex16_bytes HCO.out (topBit (n1, n2)); rw [List.length_append, HLL.out, List.length_append, preM1]; omega, by rw [HLL.out, preM2, if_neg HNZ.out, List.append_assoc]⟩, BQ4.out⟩
        case measure => simp [intOf]
       ·have HFIN := Lib.hid (HBDc.out.below hbq)
        obtain ⟨A, cc, rfl, hq1, hq2⟩ := HFIN.out.reads
        have HQ2 := Lib.hid hq2
        have HBQ := Lib.hid (HBWc.out.trans (hbq.mono HBWc.out.size))
        have HOV := Lib.hid hov
        have HLE := Lib.hid hle
        have HR2 := Lib.hid (Kd.R_lower (Kd.R_mono hov (ok' := fun _ => True) (fun _ _ => trivial)) (Nat.le_succ_of_le BX.out))
        clear hq1 hq2 hbq hov hle
        go_wp2_with (first
         | ((with_reducible refine gate_builtin (b := .append) (xs := #[.tmp 128, .tmp 129]) rfl ?_); at_builtin; refine Kd.R_append_rows (Kd.int .u8) (w0 := w) w.heap.size rfl (.tmp 128) (.tmp 129) 33 5 (.int .u8 0) 1 rfl Tryz.underlying33 infoU8 rfl (by decide) (by omega) _ (nums8 L) (nums8 (bodyM code out F)) _ _ _ (fun _ => True) (fun _ => False) rfl rfl ?aO ?aR (fun _ _ h => h) (fun _ h => h.elim) (fun _ _ => trivial) ?aB ?aS ?aL ?_; (case aO => exact HR2.out); (case aR => exact HQ2.out); (case aB => exact HBQ.out); (case aS => exact HBQ.out.size); (case aL => have h1 := HBL.out; have h2 := HL24.out; have h3 := HLE.out; simp only [nums8, List.length_map]; omega); intro v5 w5 ho hb hg_ hat_; clear hg_ hat_; have HO5 := Lib.hid ho; have HB5 := Lib.hid hb; clear ho hb))
        go_ret2
        have hfin := HO5.out
        rw [← nums8_append, HLL.out] at hfin
        exact ⟨_, _, rfl, by rw [HEB.out, mapB_pre]; exact Txt.of hfin (Nat.le_refl _), by rw [HEE.out]; rfl, HB5.out⟩
end Go.Proofs.YtommklkihjmgcaaGreatDoor.msgw
namespace Go.Proofs.YtommklkihjmgcaaGreatDoor.msgw
open Go.RowKit
open Go.Proofs.YtommklkihjmgcaaGreatDoor.msgp
open Go.Proofs.YtommklkihjmgcaaGreatDoor.buf
open Go.Proofs.YtommklkihjmgcaaGreatDoor.fieldp
open Go.Proofs.YtommklkihjmgcaaGreatDoor.fieldw
open Go.Proofs.YtommklkihjmgcaaGreatDoorW.PrintWords
open Go.Proofs.YtommklkihjmgcaaGreatDoor.fieldl
def erZ : Option Er → Int
 | none => 0
 | some e => erN e
def dia (d : Int) : Shp := dialectsL.getD d.toNat (0, 0, 0)
theorem dia_ok {d : Int} (h : 1 ≤ d ∧ d ≤ 3) : (1 ≤ (dia d).1 ∧ (dia d).1 ≤ 3) ∧ (48 ≤ (dia d).2.1 ∧ (dia d).2.1 ≤ 57) ∧ ((dia d).2.2 = 0 ∨ (dia d).2.2 = 2) := by
 have : d = 1 ∨ d = 2 ∨ d = 3 := by omega
 rcases this with rfl | rfl | rfl <;> decide
/-- What Encode answers. -/
def encR (d ty : Int) (F : Flds) : List UInt8 × Int := if 1 ≤ d ∧ d ≤ 3 then (encB (dia d).1 (dia d).2.1 (dia d).2.2 ty F, erZ (encE (dia d).2.2 ty F)) else ([], 50)
theorem told_all {w : World} (hg : ErrT w) {v : Value} {er : Option Er} (h : ErrAt w v er) : Calls Tryz.prog 35 #[v] w fun e w' => e = .returned (.int .i64 (erZ er)) ∧ Below w.heap.size w w' := by
 cases er with
 | none => obtain rfl : v = .nilIface := h; exact told_ok
 | some e => exact told_any hg h
set_option maxHeartbeats 2000000 in
set_option maxRecDepth 100000 in
theorem encodeP_any {w : World} {v : Value} {F : Flds} (h : FsAt w v F) (hT : Tabs5 w) (hS : ∀ x ∈ F, x.2.size ≤ 100000000) (d ty : Int) :
  Calls Tryz.prog 19 #[.int .i64 d, .agg #[.int .i64 ty, v]] w fun e w' => ∃ bv, e = .returned (.tuple #[bv, .int .i64 (encR d ty F).2]) ∧ Txt w' w.heap.size bv (encR d ty F).1 ∧ Below w.heap.size w w' := by
 obtain ⟨p, c, rfl⟩ := h.shape
 obtain ⟨w0, e0⟩ : ∃ W, w.alloc (.cells #[.int .i64 ty, .slice p F.length c] 24) = W := ⟨_, rfl⟩
 have b0 : Below w.heap.size w w0 := by rw [← e0]; exact (Below.refl _ _).alloc (Nat.le_refl _) _
 have km : w0.heap[w.heap.size]? = some (.cells #[.int .i64 ty, .slice p F.length c] 24 (0, 0)) := by rw [← e0]; exact heap_alloc_last _ _
 have H := Lib.hid (h.below b0)
 have HT := Lib.hid (hT.below b0)
 have HB0 := Lib.hid b0
 have KM := Lib.hid km
 have HS := Lib.hid hS
 by_cases hd : 1 ≤ d ∧ d ≤ 3
 ·obtain ⟨hc, hv, ho⟩ := dia_ok hd
  have hl : d.toNat < dialectsL.length := by show d.toNat < 4; omega
  have HW := Lib.hid (which_some (hT.below b0).tabs d.toNat (by omega) hl)
  have hdd : ((d.toNat : Nat) : Int) = d := by omega
  have hds : dialectsL[d.toNat] = dia d := by unfold dia; simp [List.getD, hl]
  rw [hdd, hds] at HW
  have hR : encR d ty F = (encB (dia d).1 (dia d).2.1 (dia d).2.2 ty F, erZ (encE (dia d).2.2 ty F)) := by unfold encR; rw [if_pos hd]
  rw [hR]
  obtain ⟨⟨code, ver, out⟩, ed⟩ : ∃ x, dia d = x := ⟨_, rfl⟩
  rw [ed] at hc hv ho HW ⊢
  have HC := Lib.hid hc
  have HV := Lib.hid hv
  have HO := Lib.hid ho
  have E0 := Lib.hid e0
  clear h hT hS b0 km e0 hd hc hv ho hl hdd hds hR ed
  go_enter Tryz.func19, Tryz.ntmps19
  go_wp2_with fail
  rw [E0.out]
  refine HW.out.mono ?_
  rintro e w1 ⟨rfl, b1⟩
  have b2 : Below w1.heap.size w1 (w1.alloc (.cells #[.int .i64 code, .int .u8 ver, .int .i64 out] 56)) := (Below.refl _ _).alloc (Nat.le_refl _) _
  have k2 := box_row w1 #[.int .i64 code, .int .u8 ver, .int .i64 out] 56
  have b02 := b1.trans (b2.mono b1.size)
  have d0 := cells_at k2 0
  have d1 := cells_at k2 1
  have d2 := cells_at k2 2
  have km2 := (b02.block w.heap.size (Array.getElem?_eq_some_iff.1 KM.out).1).trans KM.out
  have m0 := cells_at km2 0
  have m1 := cells_at km2 1
  have H2 := Lib.hid (H.out.below b02)
  have HT2 := Lib.hid (HT.out.below b02)
  have HB2 := Lib.hid (HB0.out.trans (b02.mono HB0.out.size))
  clear b1 b2 k2 b02 km2
  go_wp2_with fail
  refine (encode_any H2.out HT2.out HS.out code ver out ty HC.out HV.out HO.out).mono ?_
  rintro e w3 ⟨bv, ev, rfl, hbv, hev, b3⟩
  have HBV := Lib.hid hbv
  have HEV := Lib.hid hev
  have HB3 := Lib.hid (HB2.out.trans (b3.mono HB2.out.size))
  have HT3 := Lib.hid (HT2.out.below b3)
  clear hbv hev b3 d0 d1 d2 m0 m1
  go_wp2_with fail
  refine (told_all HT3.out.tabs.err HEV.out).mono ?_
  rintro e w4 ⟨rfl, b4⟩
  have HBV4 := Lib.hid (HBV.out.below b4)
  have HB4 := Lib.hid (HB3.out.trans (b4.mono HB3.out.size))
  clear b4
  go_wp2_with fail
  go_ret2
  exact ⟨_, rfl, HBV4.out.of_lower HB2.out.size, HB4.out⟩
 ·have HW := Lib.hid (which_none (w := w0) d (by omega))
  have hR : encR d ty F = ([], 50) := by unfold encR; rw [if_neg hd]
  rw [hR]
  have E0 := Lib.hid e0
  clear h hT hS b0 km e0 hd hR
  go_enter Tryz.func19, Tryz.ntmps19
  go_wp2_with fail
  rw [E0.out]
  refine HW.out.mono ?_
  rintro e w1 ⟨rfl, b1⟩
  have HB1 := Lib.hid (HB0.out.trans (b1.mono HB0.out.size))
  clear b1
  go_wp2_with fail
  go_ret2
  exact ⟨_, rfl, Txt.nil _ _, HB1.out.alloc HB1.out.size _⟩
end Go.Proofs.YtommklkihjmgcaaGreatDoor.msgw
