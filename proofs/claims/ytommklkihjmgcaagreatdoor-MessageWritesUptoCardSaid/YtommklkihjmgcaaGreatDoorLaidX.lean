/- Layer 5's tables out of a row's laid variables. All tables that Encode and Decode read, out of a row's laid variables. Conditions: as each theorem says. -/
import Derived.Test.YtommklkihjmgcaaGreatDoorRows
import Derived.Test.YtommklkihjmgcaaGreatDoorMsgY
import Derived.LaidHandle
import Derived.ChangeArms
import Derived.Lib.LaidTab
import Derived.Lib.LaidU8
import Derived.ProofKit
import Derived.Test.YtommklkihjmgcaaGreatDoorEncX
namespace Go.Proofs.YtommklkihjmgcaaGreatDoor.msgw
open Go.RowKit Go.Lib
open Go.Proofs.YtommklkihjmgcaaGreatDoor.msgp
open Go.Proofs.YtommklkihjmgcaaGreatDoor.buf
theorem shp_of_struct {P : Program} {w : World} {fuel : Nat} {t : TypeId} {f0 f1 f2 : Field} {k0 k1 k2 : IntKind} {cs : List Value} {a b c : Int} {p : List MemPlace} (ht : P.underlying t = some (.struct #[f0, f1, f2]))
    (h0 : P.underlying f0.type = some (.int k0) ∧ f0.offset = 0 ∧ P.cellsOf f0.type = 1) (h1 : P.underlying f1.type = some (.int k1) ∧ f1.offset = 1 ∧ P.cellsOf f1.type = 1) (h2 : P.underlying f2.type = some (.int k2) ∧ f2.offset = 2 ∧ P.cellsOf f2.type = 1)
    (hct : P.cellsOf t = 3) (h : DataW.trod (fun _ => ()) P w 0 (fun _ => true) false fuel t cs = some (.agg [.lit (.int k0 a), .lit (.int k1 b), .lit (.int k2 c)], p)) : cs = [.int k0 a, .int k1 b, .int k2 c] := by
  obtain ⟨xs, n, rfl, hx, hl, hxl, hall⟩ := DataW.trod_struct ht h
  have hxs : xs.map (·.1) = [.lit (.int k0 a), .lit (.int k1 b), .lit (.int k2 c)] := by
    have := congrArg Prod.fst hx
    simpa using this.symm
  rw [hct] at hl
  obtain ⟨c0, c1, c2, rfl⟩ : ∃ c0 c1 c2, cs = [c0, c1, c2] := by
    match cs, hl with
    | [x, y, z], _ => exact ⟨x, y, z, rfl⟩
  obtain ⟨x0, x1, x2, rfl⟩ : ∃ x0 x1 x2, xs = [x0, x1, x2] := by
    match xs, hxl with
    | [x, y, z], _ => exact ⟨x, y, z, rfl⟩
  simp only [List.map_cons, List.map_nil, List.cons.injEq, and_true] at hxs
  obtain ⟨e0, e1, e2⟩ := hxs
  have g0 := hall 0 f0 rfl
  have g1 := hall 1 f1 rfl
  have g2 := hall 2 f2 rfl
  rw [h0.2.1, h0.2.2] at g0
  rw [h1.2.1, h1.2.2] at g1
  rw [h2.2.1, h2.2.2] at g2
  obtain ⟨z0, q0, hz0, _⟩ := DataW.trod_int h0.1 g0
  obtain ⟨z1, q1, hz1, _⟩ := DataW.trod_int h1.1 g1
  obtain ⟨z2, q2, hz2, _⟩ := DataW.trod_int h2.1 g2
  subst hz0 hz1 hz2
  simp only [DataW.lit.injEq, Lit.int.injEq, true_and] at e0 e1 e2
  subst e0 e1 e2
  simp at q0 q1 q2
  rw [q0, q1, q2]
theorem types_of {w : World} (h : VarReads Tryz.prog w "groat/message.types" Rows.laid_groat_message_types) : ∀ i (h : i < typesL.length), w.cell? ⟨1, i, none⟩ = some (.int .i64 typesL[i]) := by
  intro i hi
  obtain ⟨g, t, cs, fuel, p, hg, hty, hvar, hd⟩ := h
  have n0 : Tryz.prog.globalNamed "groat/message.types" = some 1 := by kernel_rfl
  have y0 : (Tryz.prog.globals[1]?).map (·.type) = some 105 := by kernel_rfl
  obtain rfl := Option.some.inj (n0.symm.trans hg)
  obtain rfl := Option.some.inj (y0.symm.trans hty)
  have hcs := cells_of_tab (n := 16) (k := .i64) (zs := typesL) Tryz.underlying105 Tryz.underlying3 (by kernel_rfl) (by kernel_rfl) hd
  rw [World.var?_cell hg hvar i, ← Array.getElem?_toList, hcs, List.getElem?_map, List.getElem?_eq_getElem hi]
  rfl
theorem arr3 {w : World} {g : Nat} {nm : String} {k1 : IntKind} {cs : Array Value} {fuel n : Nat} {t e : TypeId} {f0 f1 f2 : Field} {p : List MemPlace} {L : List Shp} {ds : List (DataW Unit)} (hg : Tryz.prog.globalNamed nm = some g) (hvar : w.var? Tryz.prog nm = some cs)
    (ht : Tryz.prog.underlying t = some (.array n e)) (he : Tryz.prog.underlying e = some (.struct #[f0, f1, f2])) (hn : L.length = n)
    (h0 : Tryz.prog.underlying f0.type = some (.int .i64) ∧ f0.offset = 0 ∧ Tryz.prog.cellsOf f0.type = 1) (h1 : Tryz.prog.underlying f1.type = some (.int k1) ∧ f1.offset = 1 ∧ Tryz.prog.cellsOf f1.type = 1) (h2 : Tryz.prog.underlying f2.type = some (.int .i64) ∧ f2.offset = 2 ∧ Tryz.prog.cellsOf f2.type = 1)
    (hct : Tryz.prog.cellsOf e = 3) (hds : ds = L.map fun x => .agg [.lit (.int .i64 x.1), .lit (.int k1 x.2.1), .lit (.int .i64 x.2.2)])
    (h : DataW.trod (fun _ => ()) Tryz.prog w 0 (fun _ => true) false fuel t cs.toList = some (.agg ds, p)) (i : Nat) (hi : i < L.length) :
    w.cell? ⟨g, i * 3, none⟩ = some (.int .i64 L[i].1) ∧ w.cell? ⟨g, i * 3 + 1, none⟩ = some (.int k1 L[i].2.1) ∧ w.cell? ⟨g, i * 3 + 2, none⟩ = some (.int .i64 L[i].2.2) := by
  subst hds
  obtain ⟨fuel', d, q, hdi, hE⟩ := array_elem ht h i (by omega)
  rw [List.getElem?_map, List.getElem?_eq_getElem hi, Option.map_some] at hdi
  obtain rfl := Option.some.inj hdi
  rw [hct] at hE
  have hcs := shp_of_struct he h0 h1 h2 hct hE
  have e0 := congrArg (·[0]?) hcs
  have e1 := congrArg (·[1]?) hcs
  have e2 := congrArg (·[2]?) hcs
  simp [List.getElem?_drop] at e0 e1 e2
  exact ⟨by rw [World.var?_cell hg hvar]; simpa using e0, by rw [World.var?_cell hg hvar]; simpa using e1, by rw [World.var?_cell hg hvar]; simpa using e2⟩
theorem tabs_of {w : World} (he : ErrT w) (h1 : VarReads Tryz.prog w "groat/message.types" Rows.laid_groat_message_types) (h2 : VarReads Tryz.prog w "groat/message.dialects" Rows.laid_groat_message_dialects) (h3 : VarReads Tryz.prog w "groat/message.fields" Rows.laid_groat_message_fields) : Tabs w := by
  refine ⟨types_of h1, fun i hi => ?_, fun i hi => ?_, he⟩
  · obtain ⟨g, t, cs, fuel, p, hg, hty, hvar, hd⟩ := h2
    have n0 : Tryz.prog.globalNamed "groat/message.dialects" = some 0 := by kernel_rfl
    have y0 : (Tryz.prog.globals[0]?).map (·.type) = some 83 := by kernel_rfl
    obtain rfl := Option.some.inj (n0.symm.trans hg)
    obtain rfl := Option.some.inj (y0.symm.trans hty)
    exact arr3 (k1 := .u8) (L := dialectsL) hg hvar Tryz.underlying83 Tryz.underlying56 rfl ⟨Tryz.underlying3, rfl, by kernel_rfl⟩ ⟨Tryz.underlying5, rfl, by kernel_rfl⟩ ⟨Tryz.underlying3, rfl, by kernel_rfl⟩ (by kernel_rfl) rfl hd i hi
  · obtain ⟨g, t, cs, fuel, p, hg, hty, hvar, hd⟩ := h3
    have n0 : Tryz.prog.globalNamed "groat/message.fields" = some 2 := by kernel_rfl
    have y0 : (Tryz.prog.globals[2]?).map (·.type) = some 120 := by kernel_rfl
    obtain rfl := Option.some.inj (n0.symm.trans hg)
    obtain rfl := Option.some.inj (y0.symm.trans hty)
    exact arr3 (k1 := .i64) (L := fieldsL) hg hvar Tryz.underlying120 Tryz.underlying119 rfl ⟨Tryz.underlying3, rfl, by kernel_rfl⟩ ⟨Tryz.underlying3, rfl, by kernel_rfl⟩ ⟨Tryz.underlying3, rfl, by kernel_rfl⟩ (by kernel_rfl) rfl hd i hi
/-- The handle's cell. -/
theorem errT_of {w : World} {l : List (String × DataW Unit)} (h : handlesMet Tryz.prog l w) (hm : ("errors.errorType", Rows.laid_errors_errorType) ∈ l) : ErrT w := by
  obtain ⟨name, u, ty, e1, e2, e3, e4, e5⟩ := h _ hm
  have en : name = [101, 114, 114, 111, 114] := (Option.some.inj e1).symm
  subst en
  obtain rfl := Option.some.inj ((show (Tryz.prog.cutTypes.find? (·.1 == "internal/reflectlite.rtype")).map (·.2) = some 177 by kernel_rfl).symm.trans e2)
  have hs : Tryz.prog.types.size = 235 := by kernel_rfl
  have ho : ((List.range 235).filter fun t => Tryz.prog.rowNamed t [101, 114, 114, 111, 114]) = [60] := by kernel_rfl
  have hmm : ty ∈ (List.range 235).filter fun t => Tryz.prog.rowNamed t [101, 114, 114, 111, 114] := List.mem_filter.2 ⟨List.mem_range.2 (by rw [← hs]; exact e3), e4⟩
  rw [ho] at hmm
  obtain rfl := List.mem_singleton.1 hmm
  have hh : typeHandle Tryz.prog 60 = .pointer (some ⟨8, 60, none⟩) := by kernel_rfl
  rw [hh] at e5
  have := World.var?_cell (show Tryz.prog.globalNamed "errors.errorType" = some 3 by kernel_rfl) e5 0
  simpa [ErrT] using this
/-- The listed variables, whatever their order. -/
theorem tabs_laid {w : World} {l : List (String × DataW Unit)} (h : laidMetH Tryz.prog l w) (h1 : ("groat/message.types", Rows.laid_groat_message_types) ∈ l) (h2 : ("groat/message.dialects", Rows.laid_groat_message_dialects) ∈ l) (h3 : ("groat/message.fields", Rows.laid_groat_message_fields) ∈ l) (h4 : ("errors.errorType", Rows.laid_errors_errorType) ∈ l) : Tabs w := by
  have hm : laidMet Tryz.prog (l.filter fun x => x.2.handleName?.isNone) w ∧ handlesMet Tryz.prog (l.filter fun x => x.2.handleName?.isSome) w := by
    unfold laidMetH at h
    split at h
    · rename_i e
      have := (List.mem_filter (p := fun y : String × DataW Unit => y.2.handleName?.isSome)).2 ⟨h4, rfl⟩
      rw [e] at this
      cases this
    · rename_i e
      rw [e]
      exact h
  exact tabs_of (errT_of hm.2 (List.mem_filter.2 ⟨h4, rfl⟩)) (laidMet.reads hm.1 (List.mem_filter.2 ⟨h1, rfl⟩)) (laidMet.reads hm.1 (List.mem_filter.2 ⟨h2, rfl⟩)) (laidMet.reads hm.1 (List.mem_filter.2 ⟨h3, rfl⟩))
end Go.Proofs.YtommklkihjmgcaaGreatDoor.msgw
namespace Go.Proofs.YtommklkihjmgcaaGreatDoor.msgw
open Go.RowKit Go.Lib
open Go.Proofs.YtommklkihjmgcaaGreatDoor.msgp
open Go.Proofs.YtommklkihjmgcaaGreatDoor.buf
theorem zeros_of {w : World} (h : VarReads Tryz.prog w "math/bits.deBruijn64tab" Rows.laid_math_bits_deBruijn64tab) : Zeros4 w := by
  intro i hi
  obtain ⟨g, t, cs, fuel, p, hg, hty, hvar, hd⟩ := h
  have n0 : Tryz.prog.globalNamed "math/bits.deBruijn64tab" = some 7 := by kernel_rfl
  have y0 : (Tryz.prog.globals[7]?).map (·.type) = some 208 := by kernel_rfl
  obtain rfl := Option.some.inj (n0.symm.trans hg)
  obtain rfl := Option.some.inj (y0.symm.trans hty)
  have hcs := cells_of_tab (n := 64) (k := .u8) (zs := ([0, 1, 56, 2, 57, 49, 28, 3, 61, 58, 42, 50, 38, 29, 17, 4, 62, 47, 59, 36, 45, 43, 51, 22, 53, 39, 33, 30, 24, 18, 12, 5, 63, 55, 48, 27, 60, 41, 37, 16, 46, 35, 44, 21, 52, 32, 23, 11, 54, 26, 40, 15, 34, 20, 31, 10, 25, 14, 19, 9, 13, 8, 7, 6] : List Nat).map (fun z => ((z : Nat) : Int))) Tryz.underlying208 Tryz.underlying5 (by kernel_rfl) (by kernel_rfl) hd
  rw [World.var?_cell hg hvar i, ← Array.getElem?_toList, hcs, List.getElem?_map, List.getElem?_map, List.getD_eq_getElem?_getD, List.getElem?_eq_getElem (by exact hi)]
  rfl
theorem pow_of {w : World} (h : VarReads Tryz.prog w "internal/strconv.uint64pow10" Rows.laid_internal_strconv_uint64pow10) : Lib.TabIs Tryz.prog w "internal/strconv.uint64pow10" .u64 Lib.pow10Tab := by
  obtain ⟨g, t, cs, fuel, p, hg, hty, hvar, hd⟩ := h
  have n0 : Tryz.prog.globalNamed "internal/strconv.uint64pow10" = some 4 := by kernel_rfl
  have y0 : (Tryz.prog.globals[4]?).map (·.type) = some 199 := by kernel_rfl
  obtain rfl := Option.some.inj (n0.symm.trans hg)
  obtain rfl := Option.some.inj (y0.symm.trans hty)
  have hcs := cells_of_tab (n := 20) (k := .u64) (zs := Lib.pow10Tab) Tryz.underlying199 Tryz.underlying84 (by kernel_rfl) (by kernel_rfl) hd
  unfold TabIs
  rw [hvar, ← hcs]
theorem tabs5_laid {w : World} {l : List (String × DataW Unit)} (h : laidMetH Tryz.prog l w) (h1 : ("groat/message.types", Rows.laid_groat_message_types) ∈ l) (h2 : ("groat/message.dialects", Rows.laid_groat_message_dialects) ∈ l) (h3 : ("groat/message.fields", Rows.laid_groat_message_fields) ∈ l) (h4 : ("errors.errorType", Rows.laid_errors_errorType) ∈ l)
    (h5 : ("math/bits.deBruijn64tab", Rows.laid_math_bits_deBruijn64tab) ∈ l) (h6 : ("internal/strconv.uint64pow10", Rows.laid_internal_strconv_uint64pow10) ∈ l) : Tabs5 w := by
  have hm : laidMet Tryz.prog (l.filter fun x => x.2.handleName?.isNone) w := by
    have h' := h
    unfold laidMetH at h'
    split at h'
    · rename_i e
      have := (List.mem_filter (p := fun y : String × DataW Unit => y.2.handleName?.isSome)).2 ⟨h4, rfl⟩
      rw [e] at this
      cases this
    · exact h'.1
  exact ⟨tabs_laid h h1 h2 h3 h4, zeros_of (laidMet.reads hm (List.mem_filter.2 ⟨h5, rfl⟩)), pow_of (laidMet.reads hm (List.mem_filter.2 ⟨h6, rfl⟩))⟩
end Go.Proofs.YtommklkihjmgcaaGreatDoor.msgw
