/- The row of the law FieldNumbers for readings of bulk at most 1048576: it answers true, and its arguments read as they did. Condition: the bulk alone. -/
import Derived.Test.YtcgfbdleapjigaaRows
import Derived.Test.YtcgfbdleapjigaaOpsFieldNumbers
import Derived.Test.YtcgfbdleapjigaaPureFieldNumbers
import Derived.WalkKit
import Derived.ProofKit
import Derived.OpenShut
import Derived.ShutString
import Derived.ChangeOld
import Derived.Below
import Derived.JoinedCond
namespace Go.Proofs.Ytcgfbdleapjigaa.fieldNumbers
open Go.ChangeShapes Go.WideShapes Go.ChangeAt Go.RowKit Go.Proofs.Ytcgfbdleapjigaa.opens
open Go.ChangeMaps (open_string shut_string)
set_option linter.unusedVariables false
theorem own : ownKnob Try.prog.godebug = none := by kernel_rfl
theorem laidOut : laidOutB Try.prog = true := by kernel_rfl
set_option maxRecDepth 100000 in
theorem lifted (os : Os) (started : os.Started) (H : Type) (enc : TypeId × Value → H) (F : Stop.Interp) :
    ReturnsInHanded {} Try.checked os 7 .any ((Rows.OpenSpec.upto Rows.fieldNumbersSpec).pre6 enc Try.prog Try.f7 Rows.fieldNumbersUptoRow.domain false) (((Rows.OpenSpec.upto Rows.fieldNumbersSpec).at F).post enc Try.prog Try.f7 false true false false) := by
  refine returnsInHanded_of_cond (C := Try.checked) (s := Rows.OpenSpec.upto Rows.fieldNumbersSpec) (k := Rows.uptoSmall) rfl own started (by kernel_rfl) Try.func7
    (OpenSpec.witness (enc := enc) (C := Try.checked) (s := Rows.OpenSpec.upto Rows.fieldNumbersSpec) (k := Rows.uptoSmall) rfl false ⟨#[], #[.string ByteArray.empty, .int .i64 0, .int .i64 0], []⟩ 8 (by kernel_rfl) (by kernel_rfl) (by kernel_rfl)
      (x := ([.lit (.string []), .lit (.int .i64 0), .lit (.int .i64 0)], [], [])) (by kernel_rfl) rfl (by kernel_rfl)) ?_
  intro W base args ds gs before hval0 hW _ hk _
  have hval : ∀ (j : Nat) t v, Try.f7.params[j]? = some t → args[j]? = some v → Value.okWide Try.prog W .any base t v := hval0
  have hW' := hW
  obtain ⟨p, q, hA0, hV, rfl, hfz, hnd⟩ := hW
  have hA : DataW.TrodAll enc Try.prog W 0 (fun _ => true) true Try.f7.params.toList args.toList ds p := hA0
  rw [Try.params7] at hA hval
  obtain ⟨v0, vs0, d0, ds0, p0, q0, hargs, rfl, rfl, h0, r0⟩ := trodAll_cons hA
  obtain ⟨v1, vs1, d1, ds1, p1, q1, rfl, rfl, rfl, h1, r1⟩ := trodAll_cons r0
  obtain ⟨v2, vs2, d2, ds2, p2, q2, rfl, rfl, rfl, h2, r2⟩ := trodAll_cons r1
  obtain ⟨rfl, rfl, rfl⟩ := trodAll_nil r2
  obtain rfl : args = #[v0, v1, v2] := by cases args; simp_all
  obtain ⟨rfl, rfl⟩ := trodVars_none hV
  have k0 := h0
  have lt0 : ∀ x ∈ p0, x.block < W.heap.size := by obtain ⟨m, hm⟩ := k0; exact DataW.trod_lt m _ _ _ hm
  obtain ⟨a0, hK0, hG0, hm0⟩ := op_arg (op_string Try.underlying9) h0
  have e1_ : _ = [(.string a0 : Value)] := hK0
  obtain ⟨b0, eb0, _⟩ : ∃ b, v0 = .string b ∧ True := by
    obtain ⟨b, hb⟩ := open_string Try.underlying9 (hval 0 9 v0 rfl rfl) h0
    exact ⟨b, hb.1, trivial⟩
  subst eb0
  have e1_' : (.string b0 : Value) = .string a0 := by simpa [Value.cells] using e1_
  rw [e1_'] at hW' k0 ⊢
  have k1 := h1
  have lt1 : ∀ x ∈ p1, x.block < W.heap.size := by obtain ⟨m, hm⟩ := k1; exact DataW.trod_lt m _ _ _ hm
  obtain ⟨a1, hK1, hG1, hm1⟩ := op_arg (op_int Try.underlying3) h1
  have e2_ : _ = [(.int .i64 a1 : Value)] := hK1
  obtain ⟨b1, eb1, _⟩ : ∃ b, v1 = .int .i64 b ∧ True := by
    obtain ⟨b, hb⟩ := open_int Try.underlying3 (hval 1 3 v1 rfl rfl) h1
    exact ⟨b, hb.1, trivial⟩
  subst eb1
  have e2_' : (.int .i64 b1 : Value) = .int .i64 a1 := by simpa [Value.cells] using e2_
  rw [e2_'] at hW' k1 ⊢
  have k2 := h2
  have lt2 : ∀ x ∈ p2, x.block < W.heap.size := by obtain ⟨m, hm⟩ := k2; exact DataW.trod_lt m _ _ _ hm
  obtain ⟨a2, hK2, hG2, hm2⟩ := op_arg (op_int Try.underlying3) h2
  have e3_ : _ = [(.int .i64 a2 : Value)] := hK2
  obtain ⟨b2, eb2, _⟩ : ∃ b, v2 = .int .i64 b ∧ True := by
    obtain ⟨b, hb⟩ := open_int Try.underlying3 (hval 2 3 v2 rfl rfl) h2
    exact ⟨b, hb.1, trivial⟩
  subst eb2
  have e3_' : (.int .i64 b2 : Value) = .int .i64 a2 := by simpa [Value.cells] using e3_
  rw [e3_'] at hW' k2 ⊢
  have hb := small hk
  simp only [List.append_nil, Rows.uptoBulkAll] at hb
  obtain ⟨kk, hf⟩ := Pure.FieldNumbers a0 a1 a2 hG1 hG2 (by clear hval hk; omega)
  clear hA0 hval hval0
  refine (PFieldNumbers.groatlaw04_FieldNumbers.calls kk a0 a1 a2 true W hf).mono fun e W' ⟨he, bel⟩ => ?_
  subst he
  exact ⟨_, rfl, _, _, _, [], _, [], hW', trodAll_mk1 (shut_bool Try.underlying4 _), (trodAll_cons_mk (Below.trod laidOut (by kernel_rfl) (of_decide_eq_true (by kernel_rfl)) k0 bel lt0) (trodAll_cons_mk (Below.trod laidOut (by kernel_rfl) (of_decide_eq_true (by kernel_rfl)) k1 bel lt1) (trodAll_cons_mk (Below.trod laidOut (by kernel_rfl) (of_decide_eq_true (by kernel_rfl)) k2 bel lt2) trodAll_mk0))), rfl, bel.frame _, fun h => by cases h⟩
theorem over : Rows.fieldNumbersUptoRow.holds Try.pinned (Rows.OpenSpec.upto Rows.fieldNumbersSpec) :=
  OpenClaim.holds_of_cond 7 Try.f7 rfl rfl rfl rfl rfl rfl rfl ⟨rfl, rfl, rfl, rfl, rfl⟩ rfl rfl rfl rfl rfl (by kernel_rfl) Try.func7 (by kernel_rfl)
    (of_decide_eq_true (by kernel_rfl)) (by unfold Func.isWrapper; first | (rw [if_pos (by decide +kernel)]; kernel_rfl) | (rw [if_neg (by decide +kernel)]; exact ⟨rfl, rfl⟩))
    (fun os started H enc _ F => lifted os started H enc F)
theorem proved : Rows.FieldNumbersUptoSaid := over
#print axioms proved
end Go.Proofs.Ytcgfbdleapjigaa.fieldNumbers
namespace Go.Proofs.Ytcgfbdleapjigaa
/-- The row, under a short name, for the claim. -/
theorem fieldNumbers_holds : Rows.FieldNumbersUptoSaid := fieldNumbers.proved
end Go.Proofs.Ytcgfbdleapjigaa
