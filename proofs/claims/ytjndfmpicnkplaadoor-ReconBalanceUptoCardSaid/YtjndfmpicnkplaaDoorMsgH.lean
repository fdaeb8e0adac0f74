/- Layer 5: the tables of fields, types, dialects; how a dialect writes a field. Conditions: as each theorem says. -/
import Derived.Test.YtjndfmpicnkplaaDoorMsgG
namespace Go.Proofs.YtjndfmpicnkplaaDoor.msgw
open Go.RowKit
open Go.Proofs.YtjndfmpicnkplaaDoor.msgp
open Go.Proofs.YtjndfmpicnkplaaDoor.buf
/-- A field's number, kind, size. -/
abbrev Shp := Int × Int × Int
def fieldsL : List Shp := [(2, 2, 19), (3, 1, 6), (4, 1, 12), (7, 1, 10), (11, 1, 6), (32, 2, 11), (38, 3, 6), (39, 3, 2), (49, 1, 3), (64, 4, 8), (70, 1, 3), (74, 1, 10), (76, 1, 10), (86, 1, 16), (88, 1, 16), (90, 1, 20), (97, 5, 16)]
def typesL : List Int := [100, 101, 110, 200, 201, 210, 220, 221, 230, 420, 421, 430, 500, 510, 800, 810]
/-- A dialect's code, version, and how many digits of an amount it leaves out. -/
def dialectsL : List Shp := [(0, 0, 0), (1, 48, 0), (2, 49, 0), (3, 57, 2)]
/-- errors.errorType holds the handle of the type error. -/
def ErrT (w : World) : Prop := w.cell? ⟨3, 0, none⟩ = some (.iface 142 (.agg #[.pointer (some ⟨5, 72, none⟩)]))
/-- The package's tables, as its text lays them: the blocks of types, dialects, fields. -/
structure Tabs (w : World) : Prop where
  types : ∀ i (h : i < typesL.length), w.cell? ⟨0, i, none⟩ = some (.int .i64 typesL[i])
  dialects : ∀ i (h : i < dialectsL.length), w.cell? ⟨1, i * 3, none⟩ = some (.int .i64 dialectsL[i].1) ∧ w.cell? ⟨1, i * 3 + 1, none⟩ = some (.int .u8 dialectsL[i].2.1) ∧ w.cell? ⟨1, i * 3 + 2, none⟩ = some (.int .i64 dialectsL[i].2.2)
  fields : ∀ i (h : i < fieldsL.length), w.cell? ⟨2, i * 3, none⟩ = some (.int .i64 fieldsL[i].1) ∧ w.cell? ⟨2, i * 3 + 1, none⟩ = some (.int .i64 fieldsL[i].2.1) ∧ w.cell? ⟨2, i * 3 + 2, none⟩ = some (.int .i64 fieldsL[i].2.2)
  err : ErrT w
theorem Tabs.below {w w' : World} (h : Tabs w) (hb : Below w.heap.size w w') : Tabs w' :=
  ⟨fun i hi => hb.keptCell (h.types i hi), fun i hi => ⟨hb.keptCell (h.dialects i hi).1, hb.keptCell (h.dialects i hi).2.1, hb.keptCell (h.dialects i hi).2.2⟩, fun i hi => ⟨hb.keptCell (h.fields i hi).1, hb.keptCell (h.fields i hi).2.1, hb.keptCell (h.fields i hi).2.2⟩, hb.keptCell h.err⟩
/-- Which field of the table a number is. -/
def fieldAt (no : Int) : Nat := fieldsL.findIdx fun x => decide (x.1 = no)
theorem clos_form {w : World} {bn : Nat} {no : Int} (hb : w.cell? ⟨bn, 0, none⟩ = some (.int .i64 no)) (x : Shp) :
    Calls Tryd.prog 48 #[.agg #[.int .i64 x.1, .int .i64 x.2.1, .int .i64 x.2.2], .pointer (some ⟨bn, 0, none⟩)] w fun e w' => e = .returned (.bool (decide (x.1 = no))) ∧ Below w.heap.size w w' := by
  obtain ⟨n, s, u⟩ := x
  have hb2 := ((Below.refl w.heap.size w).alloc (Nat.le_refl _) (.cells #[.int .i64 n, .int .i64 s, .int .i64 u] 111)).keptCell hb
  have HB := Lib.hid ((Below.refl w.heap.size w).alloc (Nat.le_refl _) (.cells #[.int .i64 n, .int .i64 s, .int .i64 u] 111))
  clear hb
  go_enter Tryd.func48, Tryd.ntmps48
  go_wp2_with fail
  go_ret
  exact ⟨by first | rfl | simp, HB.out⟩
theorem index_form {w : World} {bn : Nat} {no : Int} (hb : w.cell? ⟨bn, 0, none⟩ = some (.int .i64 no)) (hT : Tabs w) :
    Calls Tryd.prog 47 #[.slice (some ⟨2, 0, none⟩) 17 17, .func (.func 48) #[] #[.pointer (some ⟨bn, 0, none⟩)]] w fun e w' => e = .returned (.int .i64 (if fieldAt no < 17 then (fieldAt no : Nat) else -1)) ∧ Below w.heap.size w w' := by
  obtain ⟨R, eR⟩ : ∃ R : Int, (if fieldAt no < 17 then ((fieldAt no : Nat) : Int) else -1) = R := ⟨_, rfl⟩
  rw [eR]
  have HR := Lib.hid eR
  have HT := Lib.hid hT
  have HN := Lib.hid hb
  have hl : fieldsL.length = 17 := rfl
  have HL := Lib.hid hl
  clear hT hb eR hl
  go_enter Tryd.func47, Tryd.ntmps47
  go_wp2_with fail
  go_loopw [8] (fun i wr => Below w.heap.size w wr ∧ ∃ k : Nat, k ≤ 17 ∧ i = .int .i64 k ∧ ∀ j (hj : j < fieldsL.length), j < k → (fun x : Shp => decide (x.1 = no)) fieldsL[j] = false) (fun i _ => 17 - (intOf i).toNat)
  case atStart => exact ⟨Below.refl _ _, 0, by omega, rfl, fun j hj h => by omega⟩
  case round =>
    obtain ⟨hbw, k, hk, rfl, he⟩ := hrel
    by_cases hlt : k < 17
    · have hlt' : (k : Int) < 17 := by omega
      have hkl : k < fieldsL.length := by rw [HL.out]; exact hlt
      obtain ⟨q0, q1, q2⟩ := (HT.out.below hbw).fields k hkl
      obtain ⟨x, ex⟩ : ∃ x, fieldsL[k] = x := ⟨_, rfl⟩
      rw [ex] at q0 q1 q2
      obtain ⟨pb, hpb⟩ : ∃ pb, decide (x.1 = no) = pb := ⟨_, rfl⟩
      have HC := Lib.hid (clos_form (hbw.keptCell HN.out) x)
      rw [hpb] at HC
      have hpk : (fun x : Shp => decide (x.1 = no)) fieldsL[k] = pb := by rw [ex]; exact hpb
      have HB := Lib.hid hbw
      have HLT := Lib.hid hlt
      cases pb with
      | true =>
        have HI := Lib.hid (show fieldAt no = k from (List.findIdx_eq hkl).2 ⟨hpk, fun j hj => he j (by omega) hj⟩)
        obtain ⟨n0, s0, u0⟩ := x
        clear he hpk hpb hbw ex hkl
        go_wp2_with fail
        refine HC.out.mono ?_
        rintro e w2 ⟨rfl, b2⟩
        have HB2 := Lib.hid (HB.out.trans (b2.mono HB.out.size))
        clear b2
        go_wp2_with fail
        go_ret
        exact ⟨by rw [← HR.out, HI.out, if_pos HLT.out]; rfl, HB2.out⟩
      | false =>
        have HE2 := Lib.hid (show ∀ j (hj : j < fieldsL.length), j < k + 1 → (fun x : Shp => decide (x.1 = no)) fieldsL[j] = false from fun j hj hjk => by
          by_cases e : j = k
          · subst e; exact hpk
          · exact he j hj (by omega))
        obtain ⟨n0, s0, u0⟩ := x
        clear he hpk hpb hbw ex hkl
        go_wp2_with fail
        refine HC.out.mono ?_
        rintro e w2 ⟨rfl, b2⟩
        have HB2 := Lib.hid (HB.out.trans (b2.mono HB.out.size))
        clear b2
        go_wp2_with fail
        go_roundw
        case rel => exact ⟨HB2.out, k + 1, by omega, by go_num, HE2.out⟩
        case measure => simp [intOf]; omega
    · obtain rfl : k = 17 := by omega
      have HI := Lib.hid (show ¬ fieldAt no < 17 from fun hlt2 => by
        have h1 := List.findIdx_getElem (p := fun x : Shp => decide (x.1 = no)) (xs := fieldsL) (w := hlt2)
        exact Bool.false_ne_true ((he _ hlt2 hlt2).symm.trans h1))
      have HB := Lib.hid hbw
      clear he hbw
      go_wp2_with fail
      go_ret
      exact ⟨by rw [← HR.out, if_neg HI.out]; rfl, HB.out⟩
end Go.Proofs.YtjndfmpicnkplaaDoor.msgw
