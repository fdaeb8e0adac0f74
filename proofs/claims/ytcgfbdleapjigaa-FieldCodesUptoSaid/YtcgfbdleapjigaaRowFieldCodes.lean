/- The row of the law FieldCodes for readings of bulk at most 1048576: it answers true, and its arguments read as they did. Condition: the bulk alone. -/
import Derived.Test.YtcgfbdleapjigaaRows
import Derived.Test.YtcgfbdleapjigaaOpsFieldCodes
import Derived.Test.YtcgfbdleapjigaaPureFieldCodes
import Derived.WalkKit
import Derived.ProofKit
import Derived.OpenShut
import Derived.ShutString
import Derived.ChangeOld
import Derived.Below
import Derived.JoinedCond
namespace Go.Proofs.Ytcgfbdleapjigaa.fieldCodes
open Go.ChangeShapes Go.WideShapes Go.ChangeAt Go.RowKit Go.Proofs.Ytcgfbdleapjigaa.opens
open Go.ChangeMaps (open_string shut_string)
set_option linter.unusedVariables false
theorem own : ownKnob Try.prog.godebug = none := by kernel_rfl
theorem laidOut : laidOutB Try.prog = true := by kernel_rfl
set_option maxRecDepth 100000 in
theorem lifted (os : Os) (started : os.Started) (H : Type) (enc : TypeId × Value → H) (F : Stop.Interp) :
    ReturnsInHanded {} Try.checked os 10 .any ((Rows.OpenSpec.upto Rows.fieldCodesSpec).pre6 enc Try.prog Try.f10 Rows.fieldCodesUptoRow.domain false) (((Rows.OpenSpec.upto Rows.fieldCodesSpec).at F).post enc Try.prog Try.f10 false true false false) := by
  refine returnsInHanded_of_cond (C := Try.checked) (s := Rows.OpenSpec.upto Rows.fieldCodesSpec) (k := Rows.uptoSmall) rfl own started (by kernel_rfl) Try.func10
    (OpenSpec.witness (enc := enc) (C := Try.checked) (s := Rows.OpenSpec.upto Rows.fieldCodesSpec) (k := Rows.uptoSmall) rfl false ⟨#[], #[.int .i64 0, .int .i64 0, .string ByteArray.empty], []⟩ 8 (by kernel_rfl) (by kernel_rfl) (by kernel_rfl)
      (x := ([.lit (.int .i64 0), .lit (.int .i64 0), .lit (.string [])], [], [])) (by kernel_rfl) rfl (by kernel_rfl)) ?_
  intro W base args ds gs before hval0 hW _ hk _
  have hval : ∀ (j : Nat) t v, Try.f10.params[j]? = some t → args[j]? = some v → Value.okWide Try.prog W .any base t v := hval0
  have hW' := hW
  obtain ⟨p, q, hA0, hV, rfl, hfz, hnd⟩ := hW
  have hA : DataW.TrodAll enc Try.prog W 0 (fun _ => true) true Try.f10.params.toList args.toList ds p := hA0
  rw [Try.params10] at hA hval
  obtain ⟨v0, vs0, d0, ds0, p0, q0, hargs, rfl, rfl, h0, r0⟩ := trodAll_cons hA
  obtain ⟨v1, vs1, d1, ds1, p1, q1, rfl, rfl, rfl, h1, r1⟩ := trodAll_cons r0
  obtain ⟨v2, vs2, d2, ds2, p2, q2, rfl, rfl, rfl, h2, r2⟩ := trodAll_cons r1
  obtain ⟨rfl, rfl, rfl⟩ := trodAll_nil r2
  obtain rfl : args = #[v0, v1, v2] := by cases args; simp_all
  obtain ⟨rfl, rfl⟩ := trodVars_none hV
  have k0 := h0
  have lt0 : ∀ x ∈ p0, x.block < W.heap.size := by obtain ⟨m, hm⟩ := k0; exact DataW.trod_lt m _ _ _ hm
  obtain ⟨a0, hK0, hG0, hm0⟩ := op_arg (op_int Try.underlying3) h0
  have e1_ : _ = [(.int .i64 a0 : Value)] := hK0
  obtain ⟨b0, eb0, _⟩ : ∃ b, v0 = .int .i64 b ∧ True := by
    obtain ⟨b, hb⟩ := open_int Try.underlying3 (hval 0 3 v0 rfl rfl) h0
    exact ⟨b, hb.1, trivial⟩
  subst eb0
  have e1_' : (.int .i64 b0 : Value) = .int .i64 a0 := by simpa [Value.cells] using e1_
  rw [e1_'] at hW' k0 ⊢
  have k1 := h1
  have lt1 : ∀ x ∈ p1, x.block < W.heap.size := by obtain ⟨m, hm⟩ := k1; exact DataW.trod_lt m _ _ _ hm
  obtain ⟨a1, hK1, hG1, hm1⟩ := op_arg (op_int Try.underlying3) h1
  have e2_ : _ = [(.int .i64 a1 : Value)] := hK1
  obtain ⟨b1, eb1, _⟩ : ∃ b, v1 = .int .i64 b ∧ True := by
    obtain ⟨b, hb⟩ := open_int Try.underlying3 (hval 1 3 v1 rfl rfl) h1
    exact ⟨b, hb.1, trivial⟩
  subst eb1
  have e2_' : (.int .i64 b1 : Value) = .int .i64 a1 := by simpa [Value.cells] using e2_
  rw [e2_'] at hW' k1 ⊢
  have k2 := h2
  have lt2 : ∀ x ∈ p2, x.block < W.heap.size := by obtain ⟨m, hm⟩ := k2; exact DataW.trod_lt m _ _ _ hm
  obtain ⟨a2, hK2, hG2, hm2⟩ := op_arg (op_string Try.underlying9) h2
  have e3_ : _ = [(.string a2 : Value)] := hK2
  obtain ⟨b2, eb2, _⟩ : ∃ b, v2 = .string b ∧ True := by
    obtain ⟨b, hb⟩ := open_string Try.underlying9 (hval 2 9 v2 rfl rfl) h2
    exact ⟨b, hb.1, trivial⟩
  subst eb2
  have e3_' : (.string b2 : Value) = .string a2 := by simpa [Value.cells] using e3_
  rw [e3_'] at hW' k2 ⊢
  have hb := small hk
  simp only [List.append_nil, Rows.uptoBulkAll] at hb
  have hw := Pure.FieldCodes a0 a1 a2 hG0 hG1 (by clear hval hk; omega) W
  clear hA0 hval hval0
  refine hw.mono fun e W' ⟨he, bel⟩ => ?_
  subst he
  exact ⟨_, rfl, _, _, _, [], _, [], hW', trodAll_mk1 (shut_bool Try.underlying4 _), (trodAll_cons_mk (Below.trod laidOut (by kernel_rfl) (of_decide_eq_true (by kernel_rfl)) k0 bel lt0) (trodAll_cons_mk (Below.trod laidOut (by kernel_rfl) (of_decide_eq_true (by kernel_rfl)) k1 bel lt1) (trodAll_cons_mk (Below.trod laidOut (by kernel_rfl) (of_decide_eq_true (by kernel_rfl)) k2 bel lt2) trodAll_mk0))), rfl, bel.frame _, fun h => by cases h⟩
theorem over : Rows.fieldCodesUptoRow.holds Try.pinned (Rows.OpenSpec.upto Rows.fieldCodesSpec) :=
  OpenClaim.holds_of_cond 10 Try.f10 rfl rfl rfl rfl rfl rfl rfl ⟨rfl, rfl, rfl, rfl, rfl⟩ rfl rfl rfl rfl rfl (by kernel_rfl) Try.func10 (by kernel_rfl)
    (of_decide_eq_true (by kernel_rfl)) (by unfold Func.isWrapper; first | (rw [if_pos (by decide +kernel)]; kernel_rfl) | (rw [if_neg (by decide +kernel)]; exact ⟨rfl, rfl⟩))
    (fun os started H enc _ F => lifted os started H enc F)
theorem proved : Rows.FieldCodesUptoSaid := over
#print axioms proved
end Go.Proofs.Ytcgfbdleapjigaa.fieldCodes
namespace Go.Proofs.Ytcgfbdleapjigaa
/-- The row, under a short name, for the claim. -/
theorem fieldCodes_holds : Rows.FieldCodesUptoSaid := fieldCodes.proved
end Go.Proofs.Ytcgfbdleapjigaa
