/- Layer 5: the tables of fields, types, dialects; how a dialect writes a field. Layer 5: how a dialect writes a field. Layer 5: which dialect; Form. Layer 5: what is right with a message. Conditions: as each theorem says. -/
import Derived.Test.YtommklkihjmgcaaGreatDoorMsgX
import Derived.Test.YtommklkihjmgcaaGreatDoorWWords
import Derived.Deep.RegionHeld3
import Derived.Test.YtommklkihjmgcaaGreatDoorFieldLite
namespace Go.Proofs.YtommklkihjmgcaaGreatDoor.msgw
open Go.RowKit
open Go.Proofs.YtommklkihjmgcaaGreatDoor.msgp
open Go.Proofs.YtommklkihjmgcaaGreatDoor.buf
/-- A field's number, kind, size. -/
abbrev Shp := Int × Int × Int
def fieldsL : List Shp := [(2, 2, 19), (3, 1, 6), (4, 1, 12), (7, 1, 10), (11, 1, 6), (32, 2, 11), (38, 3, 6), (39, 3, 2), (49, 1, 3), (64, 4, 8), (70, 1, 3), (74, 1, 10), (76, 1, 10), (86, 1, 16), (88, 1, 16), (90, 1, 20), (97, 5, 16)]
def typesL : List Int := [100, 101, 110, 200, 201, 210, 220, 221, 230, 420, 421, 430, 500, 510, 800, 810]
/-- A dialect's code, version, and how many digits of an amount it leaves out. -/
def dialectsL : List Shp := [(0, 0, 0), (1, 48, 0), (2, 49, 0), (3, 57, 2)]
/-- errors.errorType holds the handle of the type error. -/
def ErrT (w : World) : Prop := w.cell? ⟨3, 0, none⟩ = some (.iface 177 (.agg #[.pointer (some ⟨8, 60, none⟩)]))
/-- The package's tables, as its text lays them: the blocks of types, dialects, fields. -/
structure Tabs (w : World) : Prop where
  types : ∀ i (h : i < typesL.length), w.cell? ⟨1, i, none⟩ = some (.int .i64 typesL[i])
  dialects : ∀ i (h : i < dialectsL.length), w.cell? ⟨0, i * 3, none⟩ = some (.int .i64 dialectsL[i].1) ∧ w.cell? ⟨0, i * 3 + 1, none⟩ = some (.int .u8 dialectsL[i].2.1) ∧ w.cell? ⟨0, i * 3 + 2, none⟩ = some (.int .i64 dialectsL[i].2.2)
  fields : ∀ i (h : i < fieldsL.length), w.cell? ⟨2, i * 3, none⟩ = some (.int .i64 fieldsL[i].1) ∧ w.cell? ⟨2, i * 3 + 1, none⟩ = some (.int .i64 fieldsL[i].2.1) ∧ w.cell? ⟨2, i * 3 + 2, none⟩ = some (.int .i64 fieldsL[i].2.2)
  err : ErrT w
theorem Tabs.below {w w' : World} (h : Tabs w) (hb : Below w.heap.size w w') : Tabs w' :=
  ⟨fun i hi => hb.keptCell (h.types i hi), fun i hi => ⟨hb.keptCell (h.dialects i hi).1, hb.keptCell (h.dialects i hi).2.1, hb.keptCell (h.dialects i hi).2.2⟩, fun i hi => ⟨hb.keptCell (h.fields i hi).1, hb.keptCell (h.fields i hi).2.1, hb.keptCell (h.fields i hi).2.2⟩, hb.keptCell h.err⟩
/-- Which field of the table a number is. -/
def fieldAt (no : Int) : Nat := fieldsL.findIdx fun x => decide (x.1 = no)
theorem clos_form {w : World} {bn : Nat} {no : Int} (hb : w.cell? ⟨bn, 0, none⟩ = some (.int .i64 no)) (x : Shp) :
    Calls Tryz.prog 71 #[.agg #[.int .i64 x.1, .int .i64 x.2.1, .int .i64 x.2.2], .pointer (some ⟨bn, 0, none⟩)] w fun e w' => e = .returned (.bool (decide (x.1 = no))) ∧ Below w.heap.size w w' := by
  obtain ⟨n, s, u⟩ := x
  have hb2 := ((Below.refl w.heap.size w).alloc (Nat.le_refl _) (.cells #[.int .i64 n, .int .i64 s, .int .i64 u] 119)).keptCell hb
  have HB := Lib.hid ((Below.refl w.heap.size w).alloc (Nat.le_refl _) (.cells #[.int .i64 n, .int .i64 s, .int .i64 u] 119))
  clear hb
  go_enter Tryz.func71, Tryz.ntmps71
  go_wp2_with fail
  go_ret
  exact ⟨by first | rfl | simp, HB.out⟩
theorem index_form {w : World} {bn : Nat} {no : Int} (hb : w.cell? ⟨bn, 0, none⟩ = some (.int .i64 no)) (hT : Tabs w) :
    Calls Tryz.prog 70 #[.slice (some ⟨2, 0, none⟩) 17 17, .func (.func 71) #[] #[.pointer (some ⟨bn, 0, none⟩)]] w fun e w' => e = .returned (.int .i64 (if fieldAt no < 17 then (fieldAt no : Nat) else -1)) ∧ Below w.heap.size w w' := by
  obtain ⟨R, eR⟩ : ∃ R : Int, (if fieldAt no < 17 then ((fieldAt no : Nat) : Int) else -1) = R := ⟨_, rfl⟩
  rw [eR]
  have HR := Lib.hid eR
  have HT := Lib.hid hT
  have HN := Lib.hid hb
  have hl : fieldsL.length = 17 := rfl
  have HL := Lib.hid hl
  clear hT hb eR hl
  go_enter Tryz.func70, Tryz.ntmps70
  go_wp2_with fail
  go_loopw [8] (fun i wr => Below w.heap.size w wr ∧ ∃ k : Nat, k ≤ 17 ∧ i = .int .i64 k ∧ ∀ j (hj : j < fieldsL.length), j < k → (fun x : Shp => decide (x.1 = no)) fieldsL[j] = false) (fun i _ => 17 - (intOf i).toNat)
  case atStart => exact ⟨Below.refl _ _, 0, by omega, rfl, fun j hj h => by omega⟩
  case round =>
    obtain ⟨hbw, k, hk, rfl, he⟩ := hrel
    by_cases hlt : k < 17
    · have hlt' : (k : Int) < 17 := by omega
      have hkl : k < fieldsL.length := by rw [HL.out]; exact hlt
      obtain ⟨q0, q1, q2⟩ := (HT.out.below hbw).fields k hkl
      obtain ⟨x, ex⟩ : ∃ x, fieldsL[k] = x := ⟨_, rfl⟩
      rw [ex] at q0 q1 q2
      obtain ⟨pb, hpb⟩ : ∃ pb, decide (x.1 = no) = pb := ⟨_, rfl⟩
      have HC := Lib.hid (clos_form (hbw.keptCell HN.out) x)
      rw [hpb] at HC
      have hpk : (fun x : Shp => decide (x.1 = no)) fieldsL[k] = pb := by rw [ex]; exact hpb
      have HB := Lib.hid hbw
      have HLT := Lib.hid hlt
      cases pb with
      | true =>
        have HI := Lib.hid (show fieldAt no = k from (List.findIdx_eq hkl).2 ⟨hpk, fun j hj => he j (by omega) hj⟩)
        obtain ⟨n0, s0, u0⟩ := x
        clear he hpk hpb hbw ex hkl
        go_wp2_with fail
        refine HC.out.mono ?_
        rintro e w2 ⟨rfl, b2⟩
        have HB2 := Lib.hid (HB.out.trans (b2.mono HB.out.size))
        clear b2
        go_wp2_with fail
        go_ret
        exact ⟨by rw [← HR.out, HI.out, if_pos HLT.out]; rfl, HB2.out⟩
      | false =>
        have HE2 := Lib.hid (show ∀ j (hj : j < fieldsL.length), j < k + 1 → (fun x : Shp => decide (x.1 = no)) fieldsL[j] = false from fun j hj hjk => by
          by_cases e : j = k
          · subst e; exact hpk
          · exact he j hj (by omega))
        obtain ⟨n0, s0, u0⟩ := x
        clear he hpk hpb hbw ex hkl
        go_wp2_with fail
        refine HC.out.mono ?_
        rintro e w2 ⟨rfl, b2⟩
        have HB2 := Lib.hid (HB.out.trans (b2.mono HB.out.size))
        clear b2
        go_wp2_with fail
        go_roundw
        case rel => exact ⟨HB2.out, k + 1, by omega, by go_num, HE2.out⟩
        case measure => simp [intOf]; omega
    · obtain rfl : k = 17 := by omega
      have HI := Lib.hid (show ¬ fieldAt no < 17 from fun hlt2 => by
        have h1 := List.findIdx_getElem (p := fun x : Shp => decide (x.1 = no)) (xs := fieldsL) (w := hlt2)
        exact Bool.false_ne_true ((he _ hlt2 hlt2).symm.trans h1))
      have HB := Lib.hid hbw
      clear he hbw
      go_wp2_with fail
      go_ret
      exact ⟨by rw [← HR.out, if_neg HI.out]; rfl, HB.out⟩
end Go.Proofs.YtommklkihjmgcaaGreatDoor.msgw
namespace Go.Proofs.YtommklkihjmgcaaGreatDoor.msgw
open Go.RowKit
open Go.Proofs.YtommklkihjmgcaaGreatDoor.msgp
open Go.Proofs.YtommklkihjmgcaaGreatDoor.buf
/-- A field's kind, and its size in a dialect that leaves so many digits of an amount out. -/
def formF (no out : Int) : Option (Int × Int) := if h : fieldAt no < 17 then some (fieldsL[fieldAt no].2.1, fieldsL[fieldAt no].2.2 - (if no = 4 then out else 0)) else none
def formV (code : Int) : Option (Int × Int) → Value
  | none => .tuple #[.agg #[.int .i64 0, .int .i64 0, .int .i64 0], .bool false]
  | some (k, s) => .tuple #[.agg #[.int .i64 k, .int .i64 s, .int .i64 code], .bool true]
theorem info55s : (Tryz.prog.info? 46).map (·.size) = some 3 := by kernel_rfl
theorem fields_small : ∀ i (h : i < fieldsL.length), 0 ≤ fieldsL[i].2.2 ∧ fieldsL[i].2.2 ≤ 20 ∧ 1 ≤ fieldsL[i].2.1 ∧ fieldsL[i].2.1 ≤ 5 := by decide
theorem zero55 (w : World) : (zeroValue 46).run Tryz.prog w = .ok (.agg #[.int .i64 0, .int .i64 0, .int .i64 0]) w := (zero_of_info (P := Tryz.prog) (t := 46) (v := .agg #[.int .i64 0, .int .i64 0, .int .i64 0]) (n := 3) (by kernel_rfl)).1 w
theorem store_form {w : World} {g : Nat} {cur : Array Value} (h : w.heap[g]? = some (.cells cur 46 (0, 0))) (hc : cur.size = 3) (k s c : Int) :
    (storeVar 46 ⟨g, 0, none⟩ (.agg #[.int .i64 k, .int .i64 s, .int .i64 c])).run Tryz.prog w = .ok () (w.setRow g #[.int .i64 k, .int .i64 s, .int .i64 c]) := by
  have := run_storeVar_mid' (P := Tryz.prog) (ty := 46) (g := g) (o' := 0) (n := 3) (cs := #[.int .i64 k, .int .i64 s, .int .i64 c]) h info55s rfl (by omega) (by rw [Array.all_eq_true_iff_forall_mem]; intro u hu; simp at hu; rcases hu with rfl | rfl | rfl <;> rfl)
  rw [List.drop_of_length_le (by rw [Array.length_toList, hc]; exact Nat.le_refl 3)] at this
  exact this
set_option maxHeartbeats 4000000 in
set_option maxRecDepth 100000 in
theorem form_any {w : World} (hT : Tabs w) (code ver out no : Int) (ho : 0 ≤ out ∧ out ≤ 2) :
    Calls Tryz.prog 46 #[.agg #[.int .i64 code, .int .u8 ver, .int .i64 out], .int .i64 no] w fun e w' => e = .returned (formV code (formF no out)) ∧ Below w.heap.size w w' := by
  obtain ⟨B, eB⟩ : ∃ b, w.heap.size = b := ⟨_, rfl⟩
  obtain ⟨w0, e0⟩ : ∃ W, ((w.alloc (.cells #[.int .i64 code, .int .u8 ver, .int .i64 out] 56)).alloc (.cells #[.int .i64 no] 3)).alloc (.cells #[.int .i64 0, .int .i64 0, .int .i64 0] 46) = W := ⟨_, rfl⟩
  have b0 : Below w.heap.size w w0 := by rw [← e0]; exact (((Below.refl _ _).alloc (Nat.le_refl _) _).alloc (by simp) _).alloc (by simp; omega) _
  have s0 : w0.heap.size = B + 3 := by rw [← e0, ← eB]; simp
  have kd : w0.heap[B]? = some (.cells #[.int .i64 code, .int .u8 ver, .int .i64 out] 56 (0, 0)) := by
    rw [← e0, ← eB, Below.heap_alloc _ _ _ (by simp; omega), Below.heap_alloc _ _ _ (by simp)]
    exact heap_alloc_last _ _
  have kn : w0.heap[B + 1]? = some (.cells #[.int .i64 no] 3 (0, 0)) := by
    rw [← e0, ← eB, Below.heap_alloc _ _ _ (by simp)]
    have := heap_alloc_last (w.alloc (.cells #[.int .i64 code, .int .u8 ver, .int .i64 out] 56)) (.cells #[.int .i64 no] 3)
    simpa using this
  have kr : w0.heap[B + 2]? = some (.cells #[.int .i64 0, .int .i64 0, .int .i64 0] 46 (0, 0)) := by
    rw [← e0, ← eB]
    have := heap_alloc_last ((w.alloc (.cells #[.int .i64 code, .int .u8 ver, .int .i64 out] 56)).alloc (.cells #[.int .i64 no] 3)) (.cells #[.int .i64 0, .int .i64 0, .int .i64 0] 46)
    simpa using this
  have HI := Lib.hid (index_form (cells_at kn 0) (hT.below b0))
  have HT0 := Lib.hid (hT.below b0)
  have HB0 := Lib.hid b0
  have S0 := Lib.hid s0
  have KD := Lib.hid kd
  have KN := Lib.hid kn
  have KR := Lib.hid kr
  have E0 := Lib.hid e0
  have EB := Lib.hid eB
  have hFF : formF no out = formF no out := rfl
  clear b0 s0 kd kn kr e0 hT hFF
  go_enter Tryz.func46, Tryz.ntmps46
  go_wp2_with fail
  rw [E0.out]
  clear eB
  refine HI.out.mono ?_
  rintro e w1 ⟨rfl, b1⟩
  have HB1 := Lib.hid b1
  have r1 := (b1.block (B + 2) (by have := S0.out; omega)).trans KR.out
  have n1 : w1.cell? ⟨B + 1, 0, none⟩ = some (.int .i64 no) := b1.keptCell (cells_at KN.out 0)
  have d1 : w1.cell? ⟨B, 0, none⟩ = some (.int .i64 code) := b1.keptCell (cells_at KD.out 0)
  have d3 : w1.cell? ⟨B, 2, none⟩ = some (.int .i64 out) := b1.keptCell (cells_at KD.out 2)
  have R1 := Lib.hid r1
  by_cases hf : fieldAt no < 17
  · rw [if_pos hf]
    obtain ⟨q0, q1, q2⟩ := (HT0.out.below b1).fields (fieldAt no) hf
    obtain ⟨z0, z1, _, _⟩ := fields_small (fieldAt no) hf
    have hfv : formF no out = some (fieldsL[fieldAt no].2.1, fieldsL[fieldAt no].2.2 - (if no = 4 then out else 0)) := by unfold formF; rw [dif_pos hf]
    obtain ⟨x, ex⟩ : ∃ x, fieldsL[fieldAt no] = x := ⟨_, rfl⟩
    rw [ex] at q0 q1 q2 hfv z0 z1
    have HFV := Lib.hid hfv
    obtain ⟨k, ek⟩ : ∃ k, fieldAt no = k := ⟨_, rfl⟩
    rw [ek] at q0 q1 q2 hf
    rw [ek]
    obtain ⟨nn, kk, ss⟩ := x
    have hk17 : (k : Int) < 17 := by omega
    clear r1 b1 ex ek HI hfv q0
    go_wp2_with fail
    have bd : Below w1.heap.size w1 (w1.drew.alloc (.cells #[.int .i64 0, .int .i64 0, .int .i64 0] 46)) := (show Below w1.heap.size w1 w1.drew from ⟨rfl, rfl, rfl, Nat.le_refl _, fun _ _ => rfl⟩).alloc (Nat.le_refl _) _
    have K2 := Lib.hid (show (w1.drew.alloc (.cells #[.int .i64 0, .int .i64 0, .int .i64 0] 46)).heap[w1.heap.size]? = some (.cells #[.int .i64 0, .int .i64 0, .int .i64 0] 46 (0, 0)) from heap_alloc_last w1.drew _)
    have HA := Lib.hid (show _ ∧ _ ∧ _ from ⟨bd.keptCell d1, bd.keptCell q1, bd.keptCell q2⟩)
    have HBD := Lib.hid bd
    obtain ⟨w2, ew2⟩ : ∃ W, (w1.drew.alloc (.cells #[.int .i64 0, .int .i64 0, .int .i64 0] 46)).setRow w1.heap.size #[.int .i64 kk, .int .i64 ss, .int .i64 code] = W := ⟨_, rfl⟩
    have bd2 : Below w1.heap.size w1 w2 := by
      rw [← ew2]
      exact ⟨bd.os, bd.tape, bd.output, by simp, fun q hq => (setRow_other _ _ q _ (by omega)).trans (bd.block q hq)⟩
    have HS := Lib.hid (show _ ∧ _ ∧ _ from ⟨bd2.keptCell d1, bd2.keptCell q1, bd2.keptCell q2⟩)
    have HBD2 := Lib.hid bd2
    have HW2 := Lib.hid ew2
    have HFIN := Lib.hid (show ∃ g, w2.heap[w1.heap.size]? = some (.cells #[.int .i64 kk, .int .i64 ss, .int .i64 code] 46 (0, 0)) ∧ w2.cell? ⟨B + 1, 0, none⟩ = some (.int .i64 no) ∧ w2.cell? ⟨B, 2, none⟩ = some (.int .i64 out) ∧ w2.heap[B + 2]? = some (.cells #[.int .i64 0, .int .i64 0, .int .i64 0] 46 (0, 0)) ∧ w1.heap.size = g ∧ Below w.heap.size w w2 ∧ B + 3 ≤ g ∧ g < w2.heap.size from
      ⟨_, by rw [← ew2]; exact setRow_block K2.out, bd2.keptCell n1, bd2.keptCell d3, (bd2.block (B + 2) (by have := HB1.out.size; have := S0.out; omega)).trans R1.out, rfl, by have b01 := HB0.out.trans (HB1.out.mono HB0.out.size); exact b01.trans (bd2.mono b01.size), by have := HB1.out.size; have := S0.out; omega, by rw [← ew2]; simp⟩)
    clear bd bd2
    refine wp_region_held_drew (S := (fun W => W.cell? ⟨B, 0, none⟩ = some (.int .i64 code) ∧ W.cell? ⟨2, k * 3 + 1, none⟩ = some (.int .i64 kk) ∧ W.cell? ⟨2, k * 3 + 2, none⟩ = some (.int .i64 ss))) (by kernel_rfl) (⟨d1, q1, q2⟩) (fun hHeld => ?_)
    refine wpAnyH_take (i := 0) (oi := { dst := some 14, op := Op.move (Operand.tmp 6), type := 3, pos := _, after := _, guard := _ }) (v := ?_) rfl (by kernel_rfl) (by kernel_rfl) (by kernel_rfl) (fun _ _ _ h => h) (Or.inl ⟨by rfl, ?hyfa1⟩) (by assumption) ?restfa1
    case hyfa1 => (intro w hSw; (try dsimp only at hSw); go_simp; try with_reducible rfl)
    try simp only [Act.put, List.setIfInBounds_toArray, List.set_cons_zero, List.set_cons_succ]
    refine wpAnyH_take (i := 1) (oi := { dst := some 15, op := Op.indexAddr 120 (Operand.global 2) (Operand.tmp 14), type := 0, pos := _, after := _, guard := _ }) (v := ?_) rfl (by kernel_rfl) (by kernel_rfl) (by kernel_rfl) (fun _ _ _ h => h) (Or.inl ⟨by rfl, ?hyfa4⟩) (by assumption) ?restfa4
    case hyfa4 => (intro w hSw; (try dsimp only at hSw); go_simp; try with_reducible rfl)
    try simp only [Act.put, List.setIfInBounds_toArray, List.set_cons_zero, List.set_cons_succ]
    refine wpAnyH_take (i := 2) (oi := { dst := some 16, op := Op.fieldAddr 119 (Operand.tmp 15) 1, type := 0, pos := _, after := _, guard := _ }) (v := ?_) rfl (by kernel_rfl) (by kernel_rfl) (by kernel_rfl) (fun _ _ _ h => h) (Or.inl ⟨by rfl, ?hyfa7⟩) (by assumption) ?restfa7
    case hyfa7 => (intro w hSw; (try dsimp only at hSw); go_simp; try with_reducible rfl)
    try simp only [Act.put, List.setIfInBounds_toArray, List.set_cons_zero, List.set_cons_succ]
    refine wpAnyH_take (i := 3) (oi := { dst := some 17, op := Op.load 3 (Operand.tmp 16), type := 3, pos := _, after := _, guard := _ }) (v := ?_) rfl (by kernel_rfl) (by kernel_rfl) (by kernel_rfl) (fun _ _ _ h => h) (Or.inl ⟨by rfl, ?hyfa10⟩) (by assumption) ?restfa10
    case hyfa10 => (intro w hSw; have q := hSw.2.1; clear hSw; (try dsimp only at q); go_simp; try with_reducible rfl)
    try simp only [Act.put, List.setIfInBounds_toArray, List.set_cons_zero, List.set_cons_succ]
    refine wpAnyH_take (i := 4) (oi := { dst := some 18, op := Op.move (Operand.tmp 6), type := 3, pos := _, after := _, guard := _ }) (v := ?_) rfl (by kernel_rfl) (by kernel_rfl) (by kernel_rfl) (fun _ _ _ h => h) (Or.inl ⟨by rfl, ?hyfa13⟩) (by assumption) ?restfa13
    case hyfa13 => (intro w hSw; (try dsimp only at hSw); go_simp; try with_reducible rfl)
    try simp only [Act.put, List.setIfInBounds_toArray, List.set_cons_zero, List.set_cons_succ]
    refine wpAnyH_take (i := 5) (oi := { dst := some 19, op := Op.indexAddr 120 (Operand.global 2) (Operand.tmp 18), type := 0, pos := _, after := _, guard := _ }) (v := ?_) rfl (by kernel_rfl) (by kernel_rfl) (by kernel_rfl) (fun _ _ _ h => h) (Or.inl ⟨by rfl, ?hyfa16⟩) (by assumption) ?restfa16
    case hyfa16 => (intro w hSw; (try dsimp only at hSw); go_simp; try with_reducible rfl)
    try simp only [Act.put, List.setIfInBounds_toArray, List.set_cons_zero, List.set_cons_succ]
    refine wpAnyH_take (i := 6) (oi := { dst := some 20, op := Op.fieldAddr 119 (Operand.tmp 19) 2, type := 0, pos := _, after := _, guard := _ }) (v := ?_) rfl (by kernel_rfl) (by kernel_rfl) (by kernel_rfl) (fun _ _ _ h => h) (Or.inl ⟨by rfl, ?hyfa19⟩) (by assumption) ?restfa19
    case hyfa19 => (intro w hSw; (try dsimp only at hSw); go_simp; try with_reducible rfl)
    try simp only [Act.put, List.setIfInBounds_toArray, List.set_cons_zero, List.set_cons_succ]
    refine wpAnyH_take (i := 7) (oi := { dst := some 21, op := Op.load 3 (Operand.tmp 20), type := 3, pos := _, after := _, guard := _ }) (v := ?_) rfl (by kernel_rfl) (by kernel_rfl) (by kernel_rfl) (fun _ _ _ h => h) (Or.inl ⟨by rfl, ?hyfa22⟩) (by assumption) ?restfa22
    case hyfa22 => (intro w hSw; have q := hSw.2.2; clear hSw; (try dsimp only at q); go_simp; try with_reducible rfl)
    try simp only [Act.put, List.setIfInBounds_toArray, List.set_cons_zero, List.set_cons_succ]
    refine wpAnyH_take (i := 8) (oi := { dst := some 22, op := Op.fieldAddr 56 (Operand.tmp 2) 0, type := 0, pos := _, after := _, guard := _ }) (v := ?_) rfl (by kernel_rfl) (by kernel_rfl) (by kernel_rfl) (fun _ _ _ h => h) (Or.inl ⟨by rfl, ?hyfa25⟩) (by assumption) ?restfa25
    case hyfa25 => (intro w hSw; (try dsimp only at hSw); go_simp; try with_reducible rfl)
    try simp only [Act.put, List.setIfInBounds_toArray, List.set_cons_zero, List.set_cons_succ]
    refine wpAnyH_take (i := 9) (oi := { dst := some 23, op := Op.load 3 (Operand.tmp 22), type := 3, pos := _, after := _, guard := _ }) (v := ?_) rfl (by kernel_rfl) (by kernel_rfl) (by kernel_rfl) (fun _ _ _ h => h) (Or.inl ⟨by rfl, ?hyfa28⟩) (by assumption) ?restfa28
    case hyfa28 => (intro w hSw; have q := hSw.1; clear hSw; (try dsimp only at q); go_simp; try with_reducible rfl)
    try simp only [Act.put, List.setIfInBounds_toArray, List.set_cons_zero, List.set_cons_succ]
    refine wpAnyH_take (i := 10) (oi := { dst := some 24, op := Op.build 46 #[(0, Operand.tmp 17), (1, Operand.tmp 21), (2, Operand.tmp 23)], type := 46, pos := _, after := _, guard := _ }) (v := ?_) rfl (by kernel_rfl) (by kernel_rfl) (by kernel_rfl) (fun _ _ _ h => h) (Or.inl ⟨by rfl, ?hyfa31⟩) (by assumption) ?restfa31
    case hyfa31 => (intro w hSw; (try dsimp only at hSw); go_simp; try with_reducible rfl)
    try simp only [Act.put, List.setIfInBounds_toArray, List.set_cons_zero, List.set_cons_succ]
    refine wpAnyH_ready (rs := [11]) (by kernel_rfl) (by simp) (AllReadyH.cons (o := { dst := some 7, op := Op.alloc 46, type := 0, pos := _, after := _, guard := _ }) rfl (fun K hK => ?_) AllReadyH.nil)
    refine step_run rfl _ (exec_alloc 46 rfl #[.int .i64 0, .int .i64 0, .int .i64 0] (zero55 _)) ?_
    refine hK.out _ _ (HA.out) (fun hHeld => ?_)
    clear hK K
    try simp only [Act.put, List.setIfInBounds_toArray, List.set_cons_zero, List.set_cons_succ]
    refine wpAnyH_ready (rs := [12]) (by kernel_rfl) (by simp) (AllReadyH.cons (o := { dst := none, op := Op.store 46 (Operand.tmp 7) (Operand.tmp 24), type := 0, pos := _, after := _, guard := _ }) rfl (fun K hK => ?_) AllReadyH.nil)
    refine step_nov rfl (exec_store 46 (.tmp 7) (.tmp 24) rfl ⟨w1.heap.size, 0, none⟩ rfl _ rfl (store_form K2.out rfl kk ss code)) ?_
    refine hK.out _ _ ((by rw [HW2.out]; exact HS.out)) (fun hHeld => ?_)
    clear hK K
    refine wpAnyH_done (by kernel_rfl) ?_ _
    clear hHeld
    rw [HW2.out]
    clear d1 q1 q2
    obtain ⟨g, rg, ng, dg, rrg, hg, hbg, hgB, hgs⟩ := HFIN.out
    rw [hg] at rg
    rw [show w1.drew.heap.size = g from hg]
    have g0 : w2.cell? ⟨g, 0, none⟩ = some (.int .i64 kk) := cells_at rg 0
    have g1 : w2.cell? ⟨g, 1, none⟩ = some (.int .i64 ss) := cells_at rg 1
    have g2 : w2.cell? ⟨g, 2, none⟩ = some (.int .i64 code) := cells_at rg 2
    have gf : w2.frozen? ⟨g, 1, none⟩ = false := frozen_at rg 1
    by_cases h4 : no = 4
    · subst h4
      have HSS := Lib.hid (show wrap64 (ss - out) = ss - out from IntWalk.wrap64_in _ ⟨by omega, by omega⟩)
      have rrg' : (w2.setCell ⟨g, 1, none⟩ (.int .i64 (ss - out))).heap[B + 2]? = some (.cells #[.int .i64 0, .int .i64 0, .int .i64 0] 46 (0, 0)) := (Below.heap_setCell _ _ _ _ (by show B + 2 ≠ g; omega)).trans rrg
      have hst := store_form (g := B + 2) rrg' rfl kk (ss - out) code
      have hbg' : Below w.heap.size w (w2.setCell ⟨g, 1, none⟩ (.int .i64 (ss - out))) := hbg.setCell (by show w.heap.size ≤ g; have := EB.out; omega) _
      go_wp2_with (refine wpList_store_at rfl 46 (.tmp 4) (.tmp 33) rfl ⟨B + 2, 0, none⟩ rfl _ rfl hst ?_)
      refine bodyPost_ret (Go.Proofs.YtommklkihjmgcaaGreatDoorW.PrintWords.results_ct rfl _ _ (B + 2) _ #[.int .i64 kk, .int .i64 (ss - out), .int .i64 code] (0, 0) _ rfl (setRow_block rrg') Tryz.underlying46 rfl info55s) rfl ?_
      exact ⟨by rw [HFV.out]; rfl, ⟨hbg'.os, hbg'.tape, hbg'.output, by have := hbg'.size; simpa using this, fun q hq => (setRow_other _ _ q _ (by have := EB.out; omega)).trans (hbg'.block q hq)⟩⟩
    · have h4' : decide (no = 4) = false := by simpa using h4
      have hst := store_form (w := w2) (g := B + 2) rrg rfl kk ss code
      go_wp2_with (refine wpList_store_at rfl 46 (.tmp 4) (.tmp 33) rfl ⟨B + 2, 0, none⟩ rfl _ rfl hst ?_)
      refine bodyPost_ret (Go.Proofs.YtommklkihjmgcaaGreatDoorW.PrintWords.results_ct rfl _ _ (B + 2) _ #[.int .i64 kk, .int .i64 ss, .int .i64 code] (0, 0) _ rfl (setRow_block rrg) Tryz.underlying46 rfl info55s) rfl ?_
      exact ⟨by rw [HFV.out, if_neg h4, Int.sub_zero]; rfl, ⟨hbg.os, hbg.tape, hbg.output, by have := hbg.size; simpa using this, fun q hq => (setRow_other _ _ q _ (by have := EB.out; omega)).trans (hbg.block q hq)⟩⟩
  · rw [if_neg hf]
    have HFV := Lib.hid (show formF no out = none by unfold formF; rw [dif_neg hf])
    clear hf HI
    have hst := store_form (w := w1) (g := B + 2) r1 rfl 0 0 0
    have HST := Lib.hid hst
    have k6 : (w1.setRow (B + 2) #[.int .i64 0, .int .i64 0, .int .i64 0]).heap[B + 2]? = some (.cells #[.int .i64 0, .int .i64 0, .int .i64 0] 46 (0, 0)) := setRow_block r1
    have HBW := Lib.hid (show Below w.heap.size w (w1.setRow (B + 2) #[.int .i64 0, .int .i64 0, .int .i64 0]) from by
      have hb1 := HB0.out.trans (b1.mono HB0.out.size)
      have := EB.out
      exact ⟨hb1.os, hb1.tape, hb1.output, by simpa using hb1.size, fun q hq => (setRow_other _ _ q _ (by omega)).trans (hb1.block q hq)⟩)
    clear r1 b1 hst
    go_wp2_with (refine wpList_store_at rfl 46 (.tmp 4) (.tmp 13) rfl ⟨B + 2, 0, none⟩ rfl _ rfl HST.out ?_)
    refine bodyPost_ret (Go.Proofs.YtommklkihjmgcaaGreatDoorW.PrintWords.results_ct rfl _ _ (B + 2) _ #[.int .i64 0, .int .i64 0, .int .i64 0] (0, 0) _ rfl k6 Tryz.underlying46 rfl info55s) rfl ?_
    exact ⟨by rw [HFV.out]; rfl, HBW.out⟩
end Go.Proofs.YtommklkihjmgcaaGreatDoor.msgw
namespace Go.Proofs.YtommklkihjmgcaaGreatDoor.msgw
open Go.RowKit
open Go.Proofs.YtommklkihjmgcaaGreatDoor.msgp
open Go.Proofs.YtommklkihjmgcaaGreatDoor.buf
theorem info75s : (Tryz.prog.info? 56).map (·.size) = some 3 := by kernel_rfl
/-- A store of a whole row. -/
theorem store_all {w : World} {g : Nat} {cur : Array Value} {ty t : TypeId} {n : Nat} (h : w.heap[g]? = some (.cells cur t (0, 0))) (hi : (Tryz.prog.info? ty).map (·.size) = some n) (hc : cur.size = n) (cs : Array Value) (hs : cs.size = n) (ho : cs.toList.all Value.oneCell' = true) :
    (storeVar ty ⟨g, 0, none⟩ (.agg cs)).run Tryz.prog w = .ok () (w.setRow g cs) := by
  have := run_storeVar_mid' (P := Tryz.prog) (ty := ty) (g := g) (o' := 0) (n := n) (cs := cs) h hi hs (by omega) (by rw [← Array.all_toList]; exact ho)
  rw [List.drop_of_length_le (by rw [Array.length_toList, hc]; omega)] at this
  rw [this]
  simp
set_option maxHeartbeats 2000000 in
set_option maxRecDepth 100000 in
theorem which_some {w : World} (hT : Tabs w) (k : Nat) (h1 : 1 ≤ k) (h2 : k < dialectsL.length) :
    Calls Tryz.prog 33 #[.int .i64 k] w fun e w' => e = .returned (.tuple #[.agg #[.int .i64 dialectsL[k].1, .int .u8 dialectsL[k].2.1, .int .i64 dialectsL[k].2.2], .bool true]) ∧ Below w.heap.size w w' := by
  obtain ⟨q0, q1, q2⟩ := hT.dialects k h2
  obtain ⟨x, ex⟩ : ∃ x, dialectsL[k] = x := ⟨_, rfl⟩
  rw [ex] at q0 q1 q2 ⊢
  have h4 : k < 4 := h2
  have n1 : ¬ (k : Int) < 1 := by omega
  have n2 : ¬ (4 : Int) ≤ k := by omega
  obtain ⟨a, b, c⟩ := x
  obtain ⟨w0, e0⟩ : ∃ W, w.alloc (.cells #[.int .i64 0, .int .u8 0, .int .i64 0] 56) = W := ⟨_, rfl⟩
  have b0 : Below w.heap.size w w0 := by rw [← e0]; exact (Below.refl _ _).alloc (Nat.le_refl _) _
  have k0 : w0.heap[w.heap.size]? = some (.cells #[.int .i64 0, .int .u8 0, .int .i64 0] 56 (0, 0)) := by rw [← e0]; exact heap_alloc_last _ _
  replace q0 := b0.keptCell q0
  replace q1 := b0.keptCell q1
  replace q2 := b0.keptCell q2
  have hst := store_all (ty := 56) k0 info75s rfl #[.int .i64 a, .int .u8 b, .int .i64 c] rfl rfl
  subst e0
  have HB := Lib.hid b0
  have K0 := Lib.hid k0
  clear h2 hT ex b0 k0
  go_enter Tryz.func33, Tryz.ntmps33
  go_wp2_with (refine wpList_store_at rfl 56 (.tmp 2) (.tmp 13) rfl ⟨w.heap.size, 0, none⟩ rfl _ rfl hst ?_)
  refine bodyPost_ret (Go.Proofs.YtommklkihjmgcaaGreatDoorW.PrintWords.results_ct rfl _ _ w.heap.size _ #[.int .i64 a, .int .u8 b, .int .i64 c] (0, 0) _ rfl (setRow_block K0.out) Tryz.underlying56 rfl info75s) rfl ?_
  exact ⟨rfl, HB.out.os, HB.out.tape, HB.out.output, by simp, fun q hq => (setRow_other _ _ q _ (by omega)).trans (HB.out.block q hq)⟩
set_option maxHeartbeats 2000000 in
set_option maxRecDepth 100000 in
theorem which_none {w : World} (n : Int) (h : n < 1 ∨ 4 ≤ n) :
    Calls Tryz.prog 33 #[.int .i64 n] w fun e w' => e = .returned (.tuple #[.agg #[.int .i64 0, .int .u8 0, .int .i64 0], .bool false]) ∧ Below w.heap.size w w' := by
  obtain ⟨w0, e0⟩ : ∃ W, w.alloc (.cells #[.int .i64 0, .int .u8 0, .int .i64 0] 56) = W := ⟨_, rfl⟩
  have b0 : Below w.heap.size w w0 := by rw [← e0]; exact (Below.refl _ _).alloc (Nat.le_refl _) _
  have k0 : w0.heap[w.heap.size]? = some (.cells #[.int .i64 0, .int .u8 0, .int .i64 0] 56 (0, 0)) := by rw [← e0]; exact heap_alloc_last _ _
  have hst := store_all (ty := 56) k0 info75s rfl #[.int .i64 0, .int .u8 0, .int .i64 0] rfl rfl
  subst e0
  have HB := Lib.hid b0
  have K0 := Lib.hid k0
  clear b0 k0
  go_enter Tryz.func33, Tryz.ntmps33
  by_cases h1 : n < 1
  · go_wp2_with (refine wpList_store_at rfl 56 (.tmp 2) (.tmp 10) rfl ⟨w.heap.size, 0, none⟩ rfl _ rfl hst ?_)
    refine bodyPost_ret (Go.Proofs.YtommklkihjmgcaaGreatDoorW.PrintWords.results_ct rfl _ _ w.heap.size _ #[.int .i64 0, .int .u8 0, .int .i64 0] (0, 0) _ rfl (setRow_block K0.out) Tryz.underlying56 rfl info75s) rfl ?_
    exact ⟨rfl, HB.out.os, HB.out.tape, HB.out.output, by simp, fun q hq => (setRow_other _ _ q _ (by omega)).trans (HB.out.block q hq)⟩
  · have h4 : 4 ≤ n := by omega
    clear h
    go_wp2_with (refine wpList_store_at rfl 56 (.tmp 2) (.tmp 10) rfl ⟨w.heap.size, 0, none⟩ rfl _ rfl hst ?_)
    refine bodyPost_ret (Go.Proofs.YtommklkihjmgcaaGreatDoorW.PrintWords.results_ct rfl _ _ w.heap.size _ #[.int .i64 0, .int .u8 0, .int .i64 0] (0, 0) _ rfl (setRow_block K0.out) Tryz.underlying56 rfl info75s) rfl ?_
    exact ⟨rfl, HB.out.os, HB.out.tape, HB.out.output, by simp, fun q hq => (setRow_other _ _ q _ (by omega)).trans (HB.out.block q hq)⟩
theorem fault_ok {w : World} : Calls Tryz.prog 63 #[.int .i64 0] w fun e w' => e = .returned .nilIface ∧ Below w.heap.size w w' := by
  go_enter Tryz.func63, Tryz.ntmps63
  go_wp2_with fail
  go_ret
  exact ⟨rfl, Below.refl _ _⟩
theorem told_ok {w : World} : Calls Tryz.prog 35 #[.nilIface] w fun e w' => e = .returned (.int .i64 0) ∧ Below w.heap.size w w' := by
  go_enter Tryz.func35, Tryz.ntmps35
  go_wp2_with fail
  go_ret
  exact ⟨rfl, (Below.refl _ _).alloc (Nat.le_refl _) _⟩
/-- The public Form's answer. -/
def formP : Option (Int × Int) → Value
  | none => .tuple #[.agg #[.int .i64 0, .int .i64 0, .int .i64 0], .int .i64 52]
  | some (k, s) => .tuple #[.agg #[.int .i64 k, .int .i64 s, .int .i64 1], .int .i64 0]
end Go.Proofs.YtommklkihjmgcaaGreatDoor.msgw
namespace Go.Proofs.YtommklkihjmgcaaGreatDoor.msgw
open Go.RowKit
open Go.Proofs.YtommklkihjmgcaaGreatDoor.msgp
open Go.Proofs.YtommklkihjmgcaaGreatDoor.buf
open Go.Proofs.YtommklkihjmgcaaGreatDoor.fieldp
open Go.Proofs.YtommklkihjmgcaaGreatDoor.fieldw
/-- What is wrong: a number, or a field's number and a number. -/
inductive Er | plain (n : Int) | field (no n : Int)
def errF : Int → Flds → Option Er
  | _, [] => none
  | last, x :: r => match formF x.1 0 with
    | none => some (.field x.1 52)
    | some (k, s) => if x.1 ≤ last then some (.field x.1 52) else if checkR k s 1 x.2.data.toList = 0 then errF x.1 r else some (.field x.1 (checkR k s 1 x.2.data.toList))
/-- What Check finds. -/
def checkM (ty : Int) (F : Flds) : Option Er := if typesL.contains ty = false then some (.plain 51) else if 24 < F.length then some (.plain 5) else errF 0 F
/-- An error in memory. -/
def ErrAt (w : World) (v : Value) : Option Er → Prop
  | none => v = .nilIface
  | some (.plain n) => v = .iface 87 (.int .i64 n)
  | some (.field no n) => ∃ b, v = .iface 86 (.pointer (some ⟨b, 0, none⟩)) ∧ w.heap[b]? = some (.cells #[.int .i64 no, .iface 87 (.int .i64 n)] 89 (0, 0))
theorem dial1 {w : World} (hT : Tabs w) : w.cell? ⟨0, 3, none⟩ = some (.int .i64 1) ∧ w.cell? ⟨0, 4, none⟩ = some (.int .u8 48) ∧ w.cell? ⟨0, 5, none⟩ = some (.int .i64 0) := hT.dialects 1 (by decide)
theorem contains_types {w : World} (hT : Tabs w) (ty : Int) : Calls Tryz.prog 59 #[.slice (some ⟨1, 0, none⟩) 16 16, .int .i64 ty] w fun e w' => e = .returned (.bool (typesL.contains ty)) ∧ w' = w :=
  (Tryz.slices_Contains_int 1 0 16 16 typesL ty w (by decide) (by decide) (fun j hj => by rw [Nat.zero_add, hT.types j hj]; simp [List.getD, hj])).mono (fun e w' h => by rwa [show typesL.take 16 = typesL from rfl] at h)
theorem fault_any {w : World} (n : Int) : Calls Tryz.prog 63 #[.int .i64 n] w fun e w' => e = .returned (if n = 0 then .nilIface else .iface 87 (.int .i64 n)) ∧ Below w.heap.size w w' := by
  by_cases h : n = 0
  · subst h
    exact fault_ok
  · rw [if_neg h]
    have hd : decide (n = 0) = false := by simpa using h
    go_enter Tryz.func63, Tryz.ntmps63
    go_wp2_with fail
    go_ret
    exact ⟨rfl, Below.refl _ _⟩
theorem errF_none {last : Int} {F : Flds} {k : Nat} (hk : k < F.length) (h : formF F[k].1 0 = none) : errF last (F.drop k) = some (.field F[k].1 52) := by
  rw [List.drop_eq_getElem_cons hk, errF, h]
theorem errF_low {last : Int} {F : Flds} {k : Nat} (hk : k < F.length) {a s : Int} (h : formF F[k].1 0 = some (a, s)) (hl : F[k].1 ≤ last) : errF last (F.drop k) = some (.field F[k].1 52) := by
  rw [List.drop_eq_getElem_cons hk, errF, h]; simp [hl]
theorem errF_text {last : Int} {F : Flds} {k : Nat} (hk : k < F.length) {a s : Int} (h : formF F[k].1 0 = some (a, s)) (hl : ¬ F[k].1 ≤ last) (hc : checkR a s 1 F[k].2.data.toList ≠ 0) : errF last (F.drop k) = some (.field F[k].1 (checkR a s 1 F[k].2.data.toList)) := by
  rw [List.drop_eq_getElem_cons hk, errF, h]; simp [hl, hc]
theorem errF_next {last : Int} {F : Flds} {k : Nat} (hk : k < F.length) {a s : Int} (h : formF F[k].1 0 = some (a, s)) (hl : ¬ F[k].1 ≤ last) (hc : checkR a s 1 F[k].2.data.toList = 0) : errF last (F.drop k) = errF F[k].1 (F.drop (k + 1)) := by
  rw [List.drop_eq_getElem_cons hk, errF, h]; simp [hl, hc]
theorem box_row2 (w : World) (cs cs' : Array Value) (t t' : TypeId) : ((w.alloc (.cells cs t)).alloc (.cells cs' t')).heap[w.heap.size + 1]? = some (.cells cs' t' (0, 0)) := by
  have := heap_alloc_last (w.alloc (.cells cs t)) (.cells cs' t')
  simpa using this
theorem box_row (w : World) (cs : Array Value) (t : TypeId) : (w.alloc (.cells cs t)).heap[w.heap.size]? = some (.cells cs t (0, 0)) := heap_alloc_last _ _
set_option maxHeartbeats 2000000 in
set_option maxRecDepth 100000 in
theorem check_in {w : World} {v : Value} {F : Flds} (h : FsAt w v F) (hT : Tabs w) (ty : Int) (hty : typesL.contains ty = true) (hl : F.length ≤ 24) (hS : ∀ x ∈ F, x.2.size ≤ 100000000) :
    Calls Tryz.prog 40 #[.agg #[.int .i64 ty, v]] w fun e w' => ∃ v', e = .returned v' ∧ ErrAt w' v' (errF 0 F) ∧ Below w.heap.size w w' := by
  obtain ⟨p, c, rfl⟩ := h.shape
  obtain ⟨w0, e0⟩ : ∃ W, w.alloc (.cells #[.int .i64 ty, .slice p F.length c] 24) = W := ⟨_, rfl⟩
  have b0 : Below w.heap.size w w0 := by rw [← e0]; exact (Below.refl _ _).alloc (Nat.le_refl _) _
  have k0 : w0.heap[w.heap.size]? = some (.cells #[.int .i64 ty, .slice p F.length c] 24 (0, 0)) := by rw [← e0]; exact heap_alloc_last _ _
  have c0 : w0.cell? ⟨w.heap.size, 0, none⟩ = some (.int .i64 ty) := cells_at k0 0
  have c1 : w0.cell? ⟨w.heap.size, 1, none⟩ = some (.slice p F.length c) := cells_at k0 1
  have HC := Lib.hid (contains_types ((hT.below b0).below (show Below w0.heap.size w0 w0.drew from ⟨rfl, rfl, rfl, Nat.le_refl _, fun _ _ => rfl⟩)) ty)
  rw [hty] at HC
  have H := Lib.hid (h.below b0)
  have HT0 := Lib.hid (hT.below b0)
  have HB0 := Lib.hid b0
  have K0 := Lib.hid k0
  have HLT := Lib.hid (show w.heap.size < w0.heap.size by rw [← e0]; simp)
  have E0 := Lib.hid e0
  have HS := Lib.hid hS
  have n24 : ¬ (24 : Int) < F.length := by omega
  clear h hT b0 k0 e0 hty hS
  go_enter Tryz.func40, Tryz.ntmps40
  go_wp2_with fail
  rw [E0.out]
  refine wp_region_held_drew (S := (fun W => W.cell? ⟨w.heap.size, 0, none⟩ = some (.int .i64 ty))) (by kernel_rfl) (c0) (fun hHeld => ?_)
  refine wpAnyH_take (i := 0) (oi := { dst := some 10, op := Op.slice 105 (Operand.global 1) none none none, type := 76, pos := _, after := _, guard := _ }) (v := ?_) rfl (by kernel_rfl) (by kernel_rfl) (by kernel_rfl) (fun _ _ _ h => h) (Or.inl ⟨by rfl, ?hyca1⟩) (by assumption) ?restca1
  case hyca1 => (intro w hSw; (try dsimp only at hSw); go_simp; try with_reducible rfl)
  try simp only [Act.put, List.setIfInBounds_toArray, List.set_cons_zero, List.set_cons_succ]
  refine wpAnyH_take (i := 1) (oi := { dst := some 11, op := Op.fieldAddr 24 (Operand.tmp 1) 0, type := 0, pos := _, after := _, guard := _ }) (v := ?_) rfl (by kernel_rfl) (by kernel_rfl) (by kernel_rfl) (fun _ _ _ h => h) (Or.inl ⟨by rfl, ?hyca4⟩) (by assumption) ?restca4
  case hyca4 => (intro w hSw; (try dsimp only at hSw); go_simp; try with_reducible rfl)
  try simp only [Act.put, List.setIfInBounds_toArray, List.set_cons_zero, List.set_cons_succ]
  refine wpAnyH_take (i := 2) (oi := { dst := some 12, op := Op.load 3 (Operand.tmp 11), type := 3, pos := _, after := _, guard := _ }) (v := ?_) rfl (by kernel_rfl) (by kernel_rfl) (by kernel_rfl) (fun _ _ _ h => h) (Or.inl ⟨by rfl, ?hyca7⟩) (by assumption) ?restca7
  case hyca7 => (intro w hSw; (try dsimp only at hSw); go_simp; try with_reducible rfl)
  try simp only [Act.put, List.setIfInBounds_toArray, List.set_cons_zero, List.set_cons_succ]
  refine wpAnyH_ready (rs := [3]) (by kernel_rfl) (by simp) (AllReadyH.cons (o := { dst := some 13, op := Op.call { callee := Callee.value (Operand.func 59), args := #[Operand.tmp 10, Operand.tmp 12], argTypes := #[76, 3] }, type := 4, pos := _, after := _, guard := _ }) rfl (fun K hK => ?_) AllReadyH.nil)
  go_simp
  refine HC.out.mono ?_
  rintro e w1 ⟨rfl, e1⟩
  refine hK.out _ _ ((by rw [e1]; exact c0)) (fun hHeld => ?_)
  clear hK K
  try simp only [Act.put, List.setIfInBounds_toArray, List.set_cons_zero, List.set_cons_succ]
  refine wpAnyH_take (i := 4) (oi := { dst := some 14, op := Op.unOp UnOp.not 4 (Operand.tmp 13), type := 4, pos := _, after := _, guard := _ }) (v := ?_) rfl (by kernel_rfl) (by kernel_rfl) (by kernel_rfl) (fun _ _ _ h => h) (Or.inl ⟨by rfl, ?hyca17⟩) (by assumption) ?restca17
  case hyca17 => (intro w hSw; (try dsimp only at hSw); go_simp; try with_reducible rfl)
  try simp only [Act.put, List.setIfInBounds_toArray, List.set_cons_zero, List.set_cons_succ]
  refine wpAnyH_take (i := 5) (oi := { dst := some 9, op := Op.assign (Operand.tmp 14), type := 4, pos := _, after := _, guard := _ }) (v := ?_) rfl (by kernel_rfl) (by kernel_rfl) (by kernel_rfl) (fun _ _ _ h => h) (Or.inl ⟨by rfl, ?hyca20⟩) (by assumption) ?restca20
  case hyca20 => (intro w hSw; (try dsimp only at hSw); go_simp; try with_reducible rfl)
  try simp only [Act.put, List.setIfInBounds_toArray, List.set_cons_zero, List.set_cons_succ]
  refine wpAnyH_done (by kernel_rfl) ?_ _
  clear hHeld
  rw [e1]
  obtain ⟨w2, e2⟩ : ∃ W, w0.drew = W := ⟨_, rfl⟩
  have b2 : Below w0.heap.size w0 w2 := by rw [← e2]; exact ⟨rfl, rfl, rfl, Nat.le_refl _, fun _ _ => rfl⟩
  rw [e2]
  clear e1 e2
  replace c1 : w2.cell? ⟨w.heap.size, 1, none⟩ = some (.slice p F.length c) := (World.cell?_of_block (a := ⟨w.heap.size, 1, none⟩) (b2.block w.heap.size HLT.out)).trans c1
  have HB2 := Lib.hid (HB0.out.trans (b2.mono HB0.out.size))
  have H2 := Lib.hid (H.out.below b2)
  have HT2 := Lib.hid (HT0.out.below b2)
  clear c0 HC b2
  go_wp2_with fail
  obtain ⟨W0, eW0⟩ : ∃ n, w.heap.size = n := ⟨_, rfl⟩
  go_loopw [3, 25] (fun la i wr => Below w.heap.size w wr ∧ Below w2.heap.size w2 wr ∧ ∃ (k : Nat) (last : Int), k ≤ F.length ∧ i = .int .i64 k ∧ la = .int .i64 last ∧ errF 0 F = errF last (F.drop k)) (fun _ i _ => F.length - (intOf i).toNat)
  case atStart => exact ⟨HB2.out, Below.refl _ _, 0, 0, by omega, rfl, rfl, by rw [List.drop_zero]⟩
  case round =>
    obtain ⟨hbw, hb2, k, last, hk, rfl, rfl, he⟩ := hrel
    by_cases hlt : k < F.length
    · have hlt' : (k : Int) < F.length := by omega
      obtain ⟨b, o, rfl, q0, q1⟩ := (H2.out.below hb2).get k hlt
      obtain ⟨x, ex⟩ : ∃ x, x = F[k] := ⟨_, rfl⟩
      rw [← ex] at q0 q1
      have HLTK := Lib.hid hlt
      have HEX := Lib.hid ex
      have hsz : x.2.size ≤ 100000000 := by rw [ex]; exact HS.out _ (List.getElem_mem hlt)
      obtain ⟨no, s⟩ := x
      have HSZ := Lib.hid hsz
      obtain ⟨w3, e3⟩ : ∃ W, wr.alloc (.cells #[.int .i64 no, .string s] 28) = W := ⟨_, rfl⟩
      have b3 : Below wr.heap.size wr w3 := by rw [← e3]; exact (Below.refl _ _).alloc (Nat.le_refl _) _
      have k3 : w3.heap[wr.heap.size]? = some (.cells #[.int .i64 no, .string s] 28 (0, 0)) := by rw [← e3]; exact heap_alloc_last _ _
      obtain ⟨t0, t1, t2⟩ := dial1 ((HT2.out.below hb2).below b3)
      have f0 : w3.cell? ⟨wr.heap.size, 0, none⟩ = some (.int .i64 no) := cells_at k3 0
      rw [← e3] at t0 t1 t2 f0
      have HF := Lib.hid (form_any ((HT2.out.below hb2).below b3) 1 48 0 no (by omega))
      have l3 : wr.heap.size < w3.heap.size := by rw [← e3]; simp
      have HB3 := Lib.hid (hbw.trans (b3.mono hbw.size))
      have HB23 := Lib.hid (hb2.trans (b3.mono hb2.size))
      have HE := Lib.hid he
      have HE3 := Lib.hid e3
      have HK3 := Lib.hid k3
      have HL3 := Lib.hid l3
      clear he ex e3 b3 hbw hb2 hsz k3 l3 eW0
      go_wp2_with fail
      rw [HE3.out]
      refine HF.out.mono ?_
      rintro e w4 ⟨rfl, b4⟩
      have f04 : w4.cell? ⟨wr.heap.size, 0, none⟩ = some (.int .i64 no) := b4.keptCell (cells_at HK3.out 0)
      have f14 : w4.cell? ⟨wr.heap.size, 1, none⟩ = some (.string s) := b4.keptCell (cells_at HK3.out 1)
      have HB4 := Lib.hid (HB3.out.trans (b4.mono HB3.out.size))
      have HB24 := Lib.hid (HB23.out.trans (b4.mono HB23.out.size))
      clear b4 t0 t1 t2 f0
      obtain ⟨R, eR⟩ : ∃ R, formF no 0 = R := ⟨_, rfl⟩
      rw [eR]
      have HR := Lib.hid eR
      clear eR
      cases R with
      | none =>
        have b5 : Below w4.heap.size w4 (w4.alloc (.cells #[.int .i64 0, .int .i64 0, .int .i64 0] 46)) := (Below.refl _ _).alloc (Nat.le_refl _) _
        have f05 := b5.keptCell f04
        have HB5 := Lib.hid (HB4.out.trans (b5.mono HB4.out.size))
        have HER := Lib.hid (show errF 0 F = some (.field no 52) by rw [HE.out, errF_none HLTK.out (by rw [← HEX.out]; exact HR.out), ← HEX.out])
        clear b5 f04 f14
        unfold formV
        go_wp2_with fail
        go_ret
        exact ⟨_, rfl, by rw [HER.out]; exact ⟨_, rfl, box_row2 _ _ _ _ _⟩, HB5.out.alloc HB5.out.size _⟩
      | some ks =>
        obtain ⟨kk, ss⟩ := ks
        have b5 : Below w4.heap.size w4 (w4.alloc (.cells #[.int .i64 kk, .int .i64 ss, .int .i64 1] 46)) := (Below.refl _ _).alloc (Nat.le_refl _) _
        have f05 := b5.keptCell f04
        have f15 := b5.keptCell f14
        have k5 := box_row w4 #[.int .i64 kk, .int .i64 ss, .int .i64 1] 46
        have HB5 := Lib.hid (HB4.out.trans (b5.mono HB4.out.size))
        have HB25 := Lib.hid (HB24.out.trans (b5.mono HB24.out.size))
        clear b5 f04 f14
        unfold formV
        by_cases hle : no ≤ last
        · have HER := Lib.hid (show errF 0 F = some (.field no 52) by rw [HE.out, errF_low HLTK.out (by rw [← HEX.out]; exact HR.out) (by rw [← HEX.out]; exact hle), ← HEX.out])
          go_wp2_with fail
          go_ret
          exact ⟨_, rfl, by rw [HER.out]; exact ⟨_, rfl, box_row2 _ _ _ _ _⟩, HB5.out.alloc HB5.out.size _⟩
        · have g0 := cells_at k5 0
          have g1 := cells_at k5 1
          have g2 := cells_at k5 2
          have HCK := Lib.hid (fun W => check_any kk ss 1 s W HSZ.out)
          have HLE := Lib.hid hle
          clear k5
          go_wp2_with fail
          refine (HCK.out _).mono ?_
          rintro e w6 ⟨rfl, b6⟩
          have f06 := b6.keptCell f05
          have HB6 := Lib.hid (HB5.out.trans (b6.mono HB5.out.size))
          have HB26 := Lib.hid (HB25.out.trans (b6.mono HB25.out.size))
          clear b6 f05 f15 g0 g1 g2
          obtain ⟨e9, he9⟩ : ∃ e9, checkR kk ss 1 s.data.toList = e9 := ⟨_, rfl⟩
          rw [he9]
          have HE9 := Lib.hid he9
          have HFT := Lib.hid (fun W => fault_any (w := W) e9)
          clear he9
          go_wp2_with fail
          refine (HFT.out _).mono ?_
          rintro e w7 ⟨rfl, b7⟩
          have f07 := b7.keptCell f06
          have HB7 := Lib.hid (HB6.out.trans (b7.mono HB6.out.size))
          have HB27 := Lib.hid (HB26.out.trans (b7.mono HB26.out.size))
          clear b7 f06
          by_cases hz : e9 = 0
          · subst hz
            rw [if_pos rfl]
            have HER := Lib.hid (show errF 0 F = errF no (F.drop (k + 1)) by rw [HE.out, errF_next HLTK.out (by rw [← HEX.out]; exact HR.out) (by rw [← HEX.out]; exact Int.not_le.mpr HLE.out) (by rw [← HEX.out]; exact HE9.out), ← HEX.out])
            clear hle
            go_wp2_with fail
            go_roundw
            case rel => exact ⟨HB7.out, HB27.out, k + 1, no, by omega, by go_num, rfl, HER.out⟩
            case measure => simp [intOf]; omega
          · rw [if_neg hz]
            have HER := Lib.hid (show errF 0 F = some (.field no e9) by rw [HE.out, errF_text HLTK.out (by rw [← HEX.out]; exact HR.out) (by rw [← HEX.out]; exact Int.not_le.mpr HLE.out) (by rw [← HEX.out]; exact HE9.out ▸ hz), ← HEX.out]; rw [HE9.out])
            clear hle
            go_wp2_with fail
            go_ret
            exact ⟨_, rfl, by rw [HER.out]; exact ⟨_, rfl, box_row _ _ _⟩, HB7.out.alloc HB7.out.size _⟩
    · obtain rfl : k = F.length := by omega
      have hlt' : ¬ (F.length : Int) < F.length := by omega
      have HE := Lib.hid (show errF 0 F = none by rw [he, List.drop_length]; rfl)
      have HB := Lib.hid hbw
      clear he hbw hb2 eW0
      go_wp2_with fail
      go_ret
      exact ⟨_, rfl, by rw [HE.out]; rfl, HB.out⟩
end Go.Proofs.YtommklkihjmgcaaGreatDoor.msgw
