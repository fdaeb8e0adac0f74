/- The row of the law MessageWrites for readings of bulk at most 1048576: it answers true, and its arguments read as they did; and its tied card. Condition: the bulk alone. -/
import Derived.Test.YtommklkihjmgcaaGreatDoorRows
import Derived.Test.YtommklkihjmgcaaGreatDoorCards
import Derived.Test.YtommklkihjmgcaaGreatDoorTie
import Derived.Test.YtommklkihjmgcaaGreatDoorOpsMessageWrites
import Derived.Test.YtommklkihjmgcaaGreatDoorPureMessageWrites
import Derived.WalkKit
import Derived.ProofKit
import Derived.OpenShut
import Derived.ShutString
import Derived.ChangeOld
import Derived.Below
import Derived.JoinedCond
import Derived.Deep.DeepHandedRow
import Derived.Deep.DeepWitnessRowRef
import Derived.Lib.LaidIn
import Derived.LaidHandle
namespace Go.Proofs.YtommklkihjmgcaaGreatDoor.messageWrites
open Go.ChangeShapes Go.WideShapes Go.ChangeAt Go.RowKit Go.Lib Go.Proofs.YtommklkihjmgcaaGreatDoor.opens
open Go.ChangeMaps (open_string shut_string)
set_option linter.unusedVariables false
theorem own : ownKnob Tryz.prog.godebug = none := by kernel_rfl
theorem laidOut : laidOutB Tryz.prog = true := by kernel_rfl
/-- THE WITNESS' WORLD: the settled one, the listed variables holding what their data say. -/
noncomputable def laidWorld (os : Os) : World :=
  let w0 := World.holding Tryz.prog os ⟨#[], #[], []⟩
  let put (h : Array Obj) (g : Nat) (cs : Array Value) : Array Obj := h.modify g fun
    | .cells _ t frozen => .cells cs t frozen
    | o => o
  let h0 := put w0.heap 6 #[Value.int .u8 0, Value.int .u8 1, Value.int .u8 28, Value.int .u8 2, Value.int .u8 29, Value.int .u8 14, Value.int .u8 24, Value.int .u8 3, Value.int .u8 30, Value.int .u8 22, Value.int .u8 20, Value.int .u8 15, Value.int .u8 25, Value.int .u8 17, Value.int .u8 4, Value.int .u8 8, Value.int .u8 31, Value.int .u8 27, Value.int .u8 13, Value.int .u8 23, Value.int .u8 21, Value.int .u8 19, Value.int .u8 16, Value.int .u8 7, Value.int .u8 26, Value.int .u8 12, Value.int .u8 18, Value.int .u8 6, Value.int .u8 11, Value.int .u8 5, Value.int .u8 10, Value.int .u8 9]
  let h1 := put h0 7 #[Value.int .u8 0, Value.int .u8 1, Value.int .u8 56, Value.int .u8 2, Value.int .u8 57, Value.int .u8 49, Value.int .u8 28, Value.int .u8 3, Value.int .u8 61, Value.int .u8 58, Value.int .u8 42, Value.int .u8 50, Value.int .u8 38, Value.int .u8 29, Value.int .u8 17, Value.int .u8 4, Value.int .u8 62, Value.int .u8 47, Value.int .u8 59, Value.int .u8 36, Value.int .u8 45, Value.int .u8 43, Value.int .u8 51, Value.int .u8 22, Value.int .u8 53, Value.int .u8 39, Value.int .u8 33, Value.int .u8 30, Value.int .u8 24, Value.int .u8 18, Value.int .u8 12, Value.int .u8 5, Value.int .u8 63, Value.int .u8 55, Value.int .u8 48, Value.int .u8 27, Value.int .u8 60, Value.int .u8 41, Value.int .u8 37, Value.int .u8 16, Value.int .u8 46, Value.int .u8 35, Value.int .u8 44, Value.int .u8 21, Value.int .u8 52, Value.int .u8 32, Value.int .u8 23, Value.int .u8 11, Value.int .u8 54, Value.int .u8 26, Value.int .u8 40, Value.int .u8 15, Value.int .u8 34, Value.int .u8 20, Value.int .u8 31, Value.int .u8 10, Value.int .u8 25, Value.int .u8 14, Value.int .u8 19, Value.int .u8 9, Value.int .u8 13, Value.int .u8 8, Value.int .u8 7, Value.int .u8 6]
  let h2 := put h1 4 #[Value.int .u64 1, Value.int .u64 10, Value.int .u64 100, Value.int .u64 1000, Value.int .u64 10000, Value.int .u64 100000, Value.int .u64 1000000, Value.int .u64 10000000, Value.int .u64 100000000, Value.int .u64 1000000000, Value.int .u64 10000000000, Value.int .u64 100000000000, Value.int .u64 1000000000000, Value.int .u64 10000000000000, Value.int .u64 100000000000000, Value.int .u64 1000000000000000, Value.int .u64 10000000000000000, Value.int .u64 100000000000000000, Value.int .u64 1000000000000000000, Value.int .u64 10000000000000000000]
  let h3 := put h2 3 #[.iface 177 (.agg #[.pointer (some ⟨8, 60, none⟩)])]
  let h4 := put h3 2 #[Value.int .i64 2, Value.int .i64 2, Value.int .i64 19, Value.int .i64 3, Value.int .i64 1, Value.int .i64 6, Value.int .i64 4, Value.int .i64 1, Value.int .i64 12, Value.int .i64 7, Value.int .i64 1, Value.int .i64 10, Value.int .i64 11, Value.int .i64 1, Value.int .i64 6, Value.int .i64 32, Value.int .i64 2, Value.int .i64 11, Value.int .i64 38, Value.int .i64 3, Value.int .i64 6, Value.int .i64 39, Value.int .i64 3, Value.int .i64 2, Value.int .i64 49, Value.int .i64 1, Value.int .i64 3, Value.int .i64 64, Value.int .i64 4, Value.int .i64 8, Value.int .i64 70, Value.int .i64 1, Value.int .i64 3, Value.int .i64 74, Value.int .i64 1, Value.int .i64 10, Value.int .i64 76, Value.int .i64 1, Value.int .i64 10, Value.int .i64 86, Value.int .i64 1, Value.int .i64 16, Value.int .i64 88, Value.int .i64 1, Value.int .i64 16, Value.int .i64 90, Value.int .i64 1, Value.int .i64 20, Value.int .i64 97, Value.int .i64 5, Value.int .i64 16]
  let h5 := put h4 1 #[Value.int .i64 100, Value.int .i64 101, Value.int .i64 110, Value.int .i64 200, Value.int .i64 201, Value.int .i64 210, Value.int .i64 220, Value.int .i64 221, Value.int .i64 230, Value.int .i64 420, Value.int .i64 421, Value.int .i64 430, Value.int .i64 500, Value.int .i64 510, Value.int .i64 800, Value.int .i64 810]
  let h6 := put h5 0 #[Value.int .i64 0, Value.int .u8 0, Value.int .i64 0, Value.int .i64 1, Value.int .u8 48, Value.int .i64 0, Value.int .i64 2, Value.int .u8 49, Value.int .i64 0, Value.int .i64 3, Value.int .u8 57, Value.int .i64 2]
  { w0 with heap := h6 }
theorem laid_met (os : Os) (args : Array Value) : laidMetH Tryz.prog Rows.messageWritesUptoRow.laid ((laidWorld os).forCall (fun _ _ => 0) ⟨#[], args, []⟩).memory :=
  laidMetH_of_parts (LaidIn.of_run (l := [("math/bits.deBruijn32tab", Rows.laid_math_bits_deBruijn32tab), ("math/bits.deBruijn64tab", Rows.laid_math_bits_deBruijn64tab), ("internal/strconv.uint64pow10", Rows.laid_internal_strconv_uint64pow10), ("groat/message.fields", Rows.laid_groat_message_fields), ("groat/message.types", Rows.laid_groat_message_types), ("groat/message.dialects", Rows.laid_groat_message_dialects)]) [6, 7, 4, 2, 1, 0] 8 (by kernel_rfl) (by kernel_rfl) (by kernel_rfl) (by kernel_rfl)).met (by kernel_rfl)
theorem witness_row (os : Os) {H : Type} (enc : TypeId × Value → H) :
    (Rows.OpenSpec.upto Rows.messageWritesSpec).preRow enc Tryz.prog Tryz.f8 Rows.messageWritesUptoRow.domain false Rows.messageWritesUptoRow.laid ((laidWorld os).forCall (fun _ _ => 0) ⟨#[], #[.int .i64 0, .agg #[.int .i64 0, .slice none 0 0]], []⟩).memory #[.int .i64 0, .agg #[.int .i64 0, .slice none 0 0]] := by
  have hw : (DataW.whole enc Tryz.prog ((laidWorld os).forCall (fun _ _ => 0) ⟨#[], #[.int .i64 0, .agg #[.int .i64 0, .slice none 0 0]], []⟩).memory Tryz.f8.params.toList Rows.messageWritesSpec.vars false (#[.int .i64 0, .agg #[.int .i64 0, .slice none 0 0]] : Array Value).toList 8).map (fun x => (x.1, x.2.1)) =
      some ([.lit (.int .i64 0), .agg [.lit (.int .i64 0), .nil]], []) := by kernel_rfl
  obtain ⟨⟨x1, x2, x3⟩, hx, hx1⟩ := Option.map_eq_some_iff.1 hw
  simp only [Prod.mk.injEq] at hx1
  obtain ⟨rfl, rfl⟩ := hx1
  exact OpenSpec.preRow_of_cond 8 hx (by kernel_rfl) (fun k hk => by cases hk; kernel_rfl) (by kernel_rfl) (laid_met os _)
set_option maxRecDepth 100000 in
theorem lifted (os : Os) (started : os.Started) (H : Type) (enc : TypeId × Value → H) (F : Stop.Interp) :
    ReturnsInHanded {} Tryz.checked os 8 .any ((Rows.OpenSpec.upto Rows.messageWritesSpec).preRow enc Tryz.prog Tryz.f8 Rows.messageWritesUptoRow.domain false Rows.messageWritesUptoRow.laid) (((Rows.OpenSpec.upto Rows.messageWritesSpec).at F).post enc Tryz.prog Tryz.f8 false true false false) := by
  refine returnsInHanded_of_row (C := Tryz.checked) (s := Rows.OpenSpec.upto Rows.messageWritesSpec) own started (by kernel_rfl) Tryz.func8
    (witness_row_atRef (enc := enc) (C := Tryz.checked) false (laidWorld os) #[.int .i64 0, .agg #[.int .i64 0, .slice none 0 0]] rfl (by kernel_rfl) (by kernel_rfl) (by kernel_rfl) (witness_row os enc)) ?_
  intro W base args ds gs before hval0 hW _ hcond _ hL _ _
  have hk := hcond _ rfl
  have hval : ∀ (j : Nat) t v, Tryz.f8.params[j]? = some t → args[j]? = some v → Value.okWide Tryz.prog W .any base t v := hval0
  have hW' := hW
  obtain ⟨p, q, hA0, hV, rfl, hfz, hnd⟩ := hW
  have hA : DataW.TrodAll enc Tryz.prog W 0 (fun _ => true) true Tryz.f8.params.toList args.toList ds p := hA0
  rw [Tryz.params8] at hA hval
  obtain ⟨v0, vs0, d0, ds0, p0, q0, hargs, rfl, rfl, h0, r0⟩ := trodAll_cons hA
  obtain ⟨v1, vs1, d1, ds1, p1, q1, rfl, rfl, rfl, h1, r1⟩ := trodAll_cons r0
  obtain ⟨rfl, rfl, rfl⟩ := trodAll_nil r1
  obtain rfl : args = #[v0, v1] := by cases args; simp_all
  obtain ⟨rfl, rfl⟩ := trodVars_none hV
  have k0 := h0
  have lt0 : ∀ x ∈ p0, x.block < W.heap.size := by obtain ⟨m, hm⟩ := k0; exact DataW.trod_lt m _ _ _ hm
  obtain ⟨a0, hK0, hG0, hm0⟩ := op_arg (op_int Tryz.underlying3) h0
  have e1_ : _ = [(.int .i64 a0 : Value)] := hK0
  obtain ⟨b0, eb0, _⟩ : ∃ b, v0 = .int .i64 b ∧ True := by
    obtain ⟨b, hb⟩ := open_int Tryz.underlying3 (hval 0 3 v0 rfl rfl) h0
    exact ⟨b, hb.1, trivial⟩
  subst eb0
  have e1_' : (.int .i64 b0 : Value) = .int .i64 a0 := by simpa [Value.cells] using e1_
  rw [e1_'] at hW' k0 ⊢
  have k1 := h1
  have lt1 : ∀ x ∈ p1, x.block < W.heap.size := by obtain ⟨m, hm⟩ := k1; exact DataW.trod_lt m _ _ _ hm
  obtain ⟨a1, hK1, hG1, hm1⟩ := op_arg (opsMessageWrites.op24) h1
  obtain ⟨cs1, rfl, _⟩ := okWide_struct Tryz.underlying24 (hval 1 24 v1 rfl rfl)
  obtain ⟨s2_, s3_, e4_, h5_, h6_⟩ := hK1
  have e7_ : _ = [(.int .i64 a1.f0 : Value)] := h5_
  obtain ⟨A8_, c9_, e10_, l11_, C12_⟩ := h6_
  have e13_ : (Value.agg cs1).cells.toList = [(.int .i64 a1.f0 : Value), (.slice A8_ a1.f1.length c9_ : Value)] := by rw [e4_]; rw [e7_]; rw [e10_]; rfl
  obtain rfl : cs1 = #[(.int .i64 a1.f0 : Value), (.slice A8_ a1.f1.length c9_ : Value)] := by apply Array.ext'; exact e13_
  have hb := small hk
  simp only [List.append_nil, Rows.uptoBulkAll] at hb
  have hw := Pure.MessageWrites a0 a1 hG0 hG1 (by clear hval hk; omega) W A8_ c9_ C12_ l11_ (msgw.tabs5_laid hL (by simp [Rows.messageWritesUptoRow]) (by simp [Rows.messageWritesUptoRow]) (by simp [Rows.messageWritesUptoRow]) (by simp [Rows.messageWritesUptoRow]) (by simp [Rows.messageWritesUptoRow]) (by simp [Rows.messageWritesUptoRow]))
  clear hA0 hval hval0
  refine hw.mono fun e W' ⟨he, bel⟩ => ?_
  subst he
  exact ⟨_, rfl, _, _, _, [], _, [], hW', trodAll_mk1 (shut_bool Tryz.underlying4 _), (trodAll_cons_mk (Below.trod laidOut (by kernel_rfl) (of_decide_eq_true (by kernel_rfl)) k0 bel lt0) (trodAll_cons_mk (Below.trod laidOut (by kernel_rfl) (of_decide_eq_true (by kernel_rfl)) k1 bel lt1) trodAll_mk0)), rfl, bel.frame _, fun h => by cases h⟩
theorem over : Rows.messageWritesUptoRow.holds Tryz.pinned (Rows.OpenSpec.upto Rows.messageWritesSpec) :=
  OpenClaim.holds_of_cond 8 Tryz.f8 rfl rfl rfl rfl rfl rfl rfl ⟨rfl, rfl, rfl, rfl, rfl⟩ rfl rfl rfl rfl rfl (by kernel_rfl) Tryz.func8 (by kernel_rfl)
    (of_decide_eq_true (by kernel_rfl)) (by unfold Func.isWrapper; first | (rw [if_pos (by decide +kernel)]; kernel_rfl) | (rw [if_neg (by decide +kernel)]; exact ⟨rfl, rfl⟩))
    (fun os started H enc _ F => by rw [OpenClaim.pre_eq_preRow]; exact lifted os started H enc F)
/-- What the card asks of the parameters' types. -/
theorem plain (f : FuncId) (fn : Func) (hf : Tryz.pinned.checked.prog.funcNamed "groat/groatlaw05.MessageWrites" = some f) (hfn : Tryz.pinned.checked.prog.funcs[f]? = some fn) :
    true = Tryz.pinned.checked.prog.looks [] ∧ ∀ (j : Nat) t, fn.params[j]? = some t → Tryz.pinned.checked.prog.wantsStandIn t = false := by
  obtain rfl : f = 8 := Option.some.inj ((show Tryz.prog.funcNamed "groat/groatlaw05.MessageWrites" = some 8 by kernel_rfl).symm.trans hf) |>.symm
  obtain rfl : fn = Tryz.f8 := (Option.some.inj (Tryz.func8.symm.trans hfn)).symm
  refine ⟨by kernel_rfl, fun j t ht => ?_⟩
  rw [Tryz.params8] at ht
  have hm : t ∈ [3, 24] := by simpa using Array.mem_of_getElem? ht
  have hall : ([3, 24].all fun u => !Tryz.prog.wantsStandIn u) = true := by kernel_rfl
  exact (show Tryz.prog.wantsStandIn t = false by simpa using List.all_eq_true.1 hall t hm)
theorem proved : Rows.MessageWritesUptoCardSaid :=
  Claim7.holds_tied_plain_at .later [] _ _ _ _ over (fun _ h => by cases h) (by kernel_rfl) (fun _ h => by cases h) messageWritesUpto_row_tie rfl ⟨rfl, rfl⟩ (by kernel_rfl) rfl plain (by kernel_rfl)
#print axioms proved
end Go.Proofs.YtommklkihjmgcaaGreatDoor.messageWrites
namespace Go.Proofs.YtommklkihjmgcaaGreatDoor
/-- The card, under a short name, for the claim. -/
theorem messageWrites_holds : Rows.MessageWritesUptoCardSaid := messageWrites.proved
end Go.Proofs.YtommklkihjmgcaaGreatDoor
