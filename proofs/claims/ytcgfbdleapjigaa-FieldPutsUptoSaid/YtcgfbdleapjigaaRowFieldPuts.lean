/- The row of the law FieldPuts for readings of bulk at most 1048576: it answers true, and its arguments read as they did. Condition: the bulk alone. -/
import Derived.Test.YtcgfbdleapjigaaRows
import Derived.Test.YtcgfbdleapjigaaOpsFieldPuts
import Derived.Test.YtcgfbdleapjigaaPureFieldPuts
import Derived.WalkKit
import Derived.ProofKit
import Derived.OpenShut
import Derived.ShutString
import Derived.ChangeOld
import Derived.Below
import Derived.JoinedCond
namespace Go.Proofs.Ytcgfbdleapjigaa.fieldPuts
open Go.ChangeShapes Go.WideShapes Go.ChangeAt Go.RowKit Go.Proofs.Ytcgfbdleapjigaa.opens
open Go.ChangeMaps (open_string shut_string)
set_option linter.unusedVariables false
theorem own : ownKnob Try.prog.godebug = none := by kernel_rfl
theorem laidOut : laidOutB Try.prog = true := by kernel_rfl
set_option maxRecDepth 100000 in
theorem lifted (os : Os) (started : os.Started) (H : Type) (enc : TypeId × Value → H) (F : Stop.Interp) :
    ReturnsInHanded {} Try.checked os 3 .any ((Rows.OpenSpec.upto Rows.fieldPutsSpec).pre6 enc Try.prog Try.f3 Rows.fieldPutsUptoRow.domain false) (((Rows.OpenSpec.upto Rows.fieldPutsSpec).at F).post enc Try.prog Try.f3 false true false false) := by
  refine returnsInHanded_of_cond (C := Try.checked) (s := Rows.OpenSpec.upto Rows.fieldPutsSpec) (k := Rows.uptoSmall) rfl own started (by kernel_rfl) Try.func3
    (OpenSpec.witness (enc := enc) (C := Try.checked) (s := Rows.OpenSpec.upto Rows.fieldPutsSpec) (k := Rows.uptoSmall) rfl false ⟨#[], #[.slice none 0 0, .agg #[.int .i64 0, .int .i64 0, .int .i64 0], .string ByteArray.empty], []⟩ 8 (by kernel_rfl) (by kernel_rfl) (by kernel_rfl)
      (x := ([.nil, .agg [.lit (.int .i64 0), .lit (.int .i64 0), .lit (.int .i64 0)], .lit (.string [])], [], [])) (by kernel_rfl) rfl (by kernel_rfl)) ?_
  intro W base args ds gs before hval0 hW _ hk _
  have hval : ∀ (j : Nat) t v, Try.f3.params[j]? = some t → args[j]? = some v → Value.okWide Try.prog W .any base t v := hval0
  have hW' := hW
  obtain ⟨p, q, hA0, hV, rfl, hfz, hnd⟩ := hW
  have hA : DataW.TrodAll enc Try.prog W 0 (fun _ => true) true Try.f3.params.toList args.toList ds p := hA0
  rw [Try.params3] at hA hval
  obtain ⟨v0, vs0, d0, ds0, p0, q0, hargs, rfl, rfl, h0, r0⟩ := trodAll_cons hA
  obtain ⟨v1, vs1, d1, ds1, p1, q1, rfl, rfl, rfl, h1, r1⟩ := trodAll_cons r0
  obtain ⟨v2, vs2, d2, ds2, p2, q2, rfl, rfl, rfl, h2, r2⟩ := trodAll_cons r1
  obtain ⟨rfl, rfl, rfl⟩ := trodAll_nil r2
  obtain rfl : args = #[v0, v1, v2] := by cases args; simp_all
  obtain ⟨rfl, rfl⟩ := trodVars_none hV
  have k0 := h0
  have lt0 : ∀ x ∈ p0, x.block < W.heap.size := by obtain ⟨m, hm⟩ := k0; exact DataW.trod_lt m _ _ _ hm
  obtain ⟨a0, hK0, hG0, hm0⟩ := op_arg (op_slice 0 Try.underlying22 (by kernel_rfl) (op_int Try.underlying5)) h0
  obtain ⟨ad0, len0, cap0, rfl⟩ := okWide_slice Try.underlying22 (hval 0 22 v0 rfl rfl)
  obtain ⟨A1_, c2_, e3_, l4_, C5_⟩ := hK0
  have e3_' : (Value.slice ad0 len0 cap0) = .slice A1_ a0.length c2_ := by simpa [Value.cells] using e3_
  rw [e3_'] at hW' k0 ⊢
  have k1 := h1
  have lt1 : ∀ x ∈ p1, x.block < W.heap.size := by obtain ⟨m, hm⟩ := k1; exact DataW.trod_lt m _ _ _ hm
  obtain ⟨a1, hK1, hG1, hm1⟩ := op_arg (opsFieldPuts.op24) h1
  obtain ⟨cs1, rfl, _⟩ := okWide_struct Try.underlying24 (hval 1 24 v1 rfl rfl)
  obtain ⟨s6_, s7_, e8_, h9_, h10_⟩ := hK1
  have e11_ : _ = [(.int .i64 a1.f0 : Value)] := h9_
  obtain ⟨s12_, s13_, e14_, h15_, h16_⟩ := h10_
  have e17_ : _ = [(.int .i64 a1.f1 : Value)] := h15_
  have e18_ : _ = [(.int .i64 a1.f2 : Value)] := h16_
  have e19_ : (Value.agg cs1).cells.toList = [(.int .i64 a1.f0 : Value), (.int .i64 a1.f1 : Value), (.int .i64 a1.f2 : Value)] := by rw [e8_]; rw [e11_]; rw [e14_]; rw [e17_]; rw [e18_]; rfl
  obtain rfl : cs1 = #[(.int .i64 a1.f0 : Value), (.int .i64 a1.f1 : Value), (.int .i64 a1.f2 : Value)] := by apply Array.ext'; exact e19_
  have k2 := h2
  have lt2 : ∀ x ∈ p2, x.block < W.heap.size := by obtain ⟨m, hm⟩ := k2; exact DataW.trod_lt m _ _ _ hm
  obtain ⟨a2, hK2, hG2, hm2⟩ := op_arg (op_string Try.underlying9) h2
  have e20_ : _ = [(.string a2 : Value)] := hK2
  obtain ⟨b2, eb2, _⟩ : ∃ b, v2 = .string b ∧ True := by
    obtain ⟨b, hb⟩ := open_string Try.underlying9 (hval 2 9 v2 rfl rfl) h2
    exact ⟨b, hb.1, trivial⟩
  subst eb2
  have e20_' : (.string b2 : Value) = .string a2 := by simpa [Value.cells] using e20_
  rw [e20_'] at hW' k2 ⊢
  have hb := small hk
  simp only [List.append_nil, Rows.uptoBulkAll] at hb
  have hw := Pure.FieldPuts a0 a1 a2 hG0 hG1 (by clear hval hk; omega) W A1_ c2_ C5_ l4_
  clear hA0 hval hval0
  refine hw.mono fun e W' ⟨he, bel⟩ => ?_
  subst he
  exact ⟨_, rfl, _, _, _, [], _, [], hW', trodAll_mk1 (shut_bool Try.underlying4 _), (trodAll_cons_mk (Below.trod laidOut (by kernel_rfl) (of_decide_eq_true (by kernel_rfl)) k0 bel lt0) (trodAll_cons_mk (Below.trod laidOut (by kernel_rfl) (of_decide_eq_true (by kernel_rfl)) k1 bel lt1) (trodAll_cons_mk (Below.trod laidOut (by kernel_rfl) (of_decide_eq_true (by kernel_rfl)) k2 bel lt2) trodAll_mk0))), rfl, bel.frame _, fun h => by cases h⟩
theorem over : Rows.fieldPutsUptoRow.holds Try.pinned (Rows.OpenSpec.upto Rows.fieldPutsSpec) :=
  OpenClaim.holds_of_cond 3 Try.f3 rfl rfl rfl rfl rfl rfl rfl ⟨rfl, rfl, rfl, rfl, rfl⟩ rfl rfl rfl rfl rfl (by kernel_rfl) Try.func3 (by kernel_rfl)
    (of_decide_eq_true (by kernel_rfl)) (by unfold Func.isWrapper; first | (rw [if_pos (by decide +kernel)]; kernel_rfl) | (rw [if_neg (by decide +kernel)]; exact ⟨rfl, rfl⟩))
    (fun os started H enc _ F => lifted os started H enc F)
theorem proved : Rows.FieldPutsUptoSaid := over
#print axioms proved
end Go.Proofs.Ytcgfbdleapjigaa.fieldPuts
namespace Go.Proofs.Ytcgfbdleapjigaa
/-- The row, under a short name, for the claim. -/
theorem fieldPuts_holds : Rows.FieldPutsUptoSaid := fieldPuts.proved
end Go.Proofs.Ytcgfbdleapjigaa
