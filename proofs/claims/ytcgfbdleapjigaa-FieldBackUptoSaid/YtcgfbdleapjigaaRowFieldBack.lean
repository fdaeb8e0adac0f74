/- The row of the law FieldBack for readings of bulk at most 1048576: it answers true, and its arguments read as they did. Condition: the bulk alone. -/
import Derived.Test.YtcgfbdleapjigaaRows
import Derived.Test.YtcgfbdleapjigaaOpsFieldBack
import Derived.Test.YtcgfbdleapjigaaPureFieldBack
import Derived.WalkKit
import Derived.ProofKit
import Derived.OpenShut
import Derived.ShutString
import Derived.ChangeOld
import Derived.Below
import Derived.JoinedCond
namespace Go.Proofs.Ytcgfbdleapjigaa.fieldBack
open Go.ChangeShapes Go.WideShapes Go.ChangeAt Go.RowKit Go.Proofs.Ytcgfbdleapjigaa.opens
open Go.ChangeMaps (open_string shut_string)
set_option linter.unusedVariables false
theorem own : ownKnob Try.prog.godebug = none := by kernel_rfl
theorem laidOut : laidOutB Try.prog = true := by kernel_rfl
set_option maxRecDepth 100000 in
theorem lifted (os : Os) (started : os.Started) (H : Type) (enc : TypeId × Value → H) (F : Stop.Interp) :
    ReturnsInHanded {} Try.checked os 5 .any ((Rows.OpenSpec.upto Rows.fieldBackSpec).pre6 enc Try.prog Try.f5 Rows.fieldBackUptoRow.domain false) (((Rows.OpenSpec.upto Rows.fieldBackSpec).at F).post enc Try.prog Try.f5 false true false false) := by
  refine returnsInHanded_of_cond (C := Try.checked) (s := Rows.OpenSpec.upto Rows.fieldBackSpec) (k := Rows.uptoSmall) rfl own started (by kernel_rfl) Try.func5
    (OpenSpec.witness (enc := enc) (C := Try.checked) (s := Rows.OpenSpec.upto Rows.fieldBackSpec) (k := Rows.uptoSmall) rfl false ⟨#[], #[.agg #[.int .i64 0, .int .i64 0, .int .i64 0], .string ByteArray.empty, .slice none 0 0], []⟩ 8 (by kernel_rfl) (by kernel_rfl) (by kernel_rfl)
      (x := ([.agg [.lit (.int .i64 0), .lit (.int .i64 0), .lit (.int .i64 0)], .lit (.string []), .nil], [], [])) (by kernel_rfl) rfl (by kernel_rfl)) ?_
  intro W base args ds gs before hval0 hW _ hk _
  have hval : ∀ (j : Nat) t v, Try.f5.params[j]? = some t → args[j]? = some v → Value.okWide Try.prog W .any base t v := hval0
  have hW' := hW
  obtain ⟨p, q, hA0, hV, rfl, hfz, hnd⟩ := hW
  have hA : DataW.TrodAll enc Try.prog W 0 (fun _ => true) true Try.f5.params.toList args.toList ds p := hA0
  rw [Try.params5] at hA hval
  obtain ⟨v0, vs0, d0, ds0, p0, q0, hargs, rfl, rfl, h0, r0⟩ := trodAll_cons hA
  obtain ⟨v1, vs1, d1, ds1, p1, q1, rfl, rfl, rfl, h1, r1⟩ := trodAll_cons r0
  obtain ⟨v2, vs2, d2, ds2, p2, q2, rfl, rfl, rfl, h2, r2⟩ := trodAll_cons r1
  obtain ⟨rfl, rfl, rfl⟩ := trodAll_nil r2
  obtain rfl : args = #[v0, v1, v2] := by cases args; simp_all
  obtain ⟨rfl, rfl⟩ := trodVars_none hV
  have k0 := h0
  have lt0 : ∀ x ∈ p0, x.block < W.heap.size := by obtain ⟨m, hm⟩ := k0; exact DataW.trod_lt m _ _ _ hm
  obtain ⟨a0, hK0, hG0, hm0⟩ := op_arg (opsFieldBack.op24) h0
  obtain ⟨cs0, rfl, _⟩ := okWide_struct Try.underlying24 (hval 0 24 v0 rfl rfl)
  obtain ⟨s1_, s2_, e3_, h4_, h5_⟩ := hK0
  have e6_ : _ = [(.int .i64 a0.f0 : Value)] := h4_
  obtain ⟨s7_, s8_, e9_, h10_, h11_⟩ := h5_
  have e12_ : _ = [(.int .i64 a0.f1 : Value)] := h10_
  have e13_ : _ = [(.int .i64 a0.f2 : Value)] := h11_
  have e14_ : (Value.agg cs0).cells.toList = [(.int .i64 a0.f0 : Value), (.int .i64 a0.f1 : Value), (.int .i64 a0.f2 : Value)] := by rw [e3_]; rw [e6_]; rw [e9_]; rw [e12_]; rw [e13_]; rfl
  obtain rfl : cs0 = #[(.int .i64 a0.f0 : Value), (.int .i64 a0.f1 : Value), (.int .i64 a0.f2 : Value)] := by apply Array.ext'; exact e14_
  have k1 := h1
  have lt1 : ∀ x ∈ p1, x.block < W.heap.size := by obtain ⟨m, hm⟩ := k1; exact DataW.trod_lt m _ _ _ hm
  obtain ⟨a1, hK1, hG1, hm1⟩ := op_arg (op_string Try.underlying9) h1
  have e15_ : _ = [(.string a1 : Value)] := hK1
  obtain ⟨b1, eb1, _⟩ : ∃ b, v1 = .string b ∧ True := by
    obtain ⟨b, hb⟩ := open_string Try.underlying9 (hval 1 9 v1 rfl rfl) h1
    exact ⟨b, hb.1, trivial⟩
  subst eb1
  have e15_' : (.string b1 : Value) = .string a1 := by simpa [Value.cells] using e15_
  rw [e15_'] at hW' k1 ⊢
  have k2 := h2
  have lt2 : ∀ x ∈ p2, x.block < W.heap.size := by obtain ⟨m, hm⟩ := k2; exact DataW.trod_lt m _ _ _ hm
  obtain ⟨a2, hK2, hG2, hm2⟩ := op_arg (op_slice 0 Try.underlying22 (by kernel_rfl) (op_int Try.underlying5)) h2
  obtain ⟨ad2, len2, cap2, rfl⟩ := okWide_slice Try.underlying22 (hval 2 22 v2 rfl rfl)
  obtain ⟨A16_, c17_, e18_, l19_, C20_⟩ := hK2
  have e18_' : (Value.slice ad2 len2 cap2) = .slice A16_ a2.length c17_ := by simpa [Value.cells] using e18_
  rw [e18_'] at hW' k2 ⊢
  have hb := small hk
  simp only [List.append_nil, Rows.uptoBulkAll] at hb
  obtain ⟨kk, hf⟩ := Pure.FieldBack a0 a1 a2 hG0 hG2 (by clear hval hk; omega)
  clear hA0 hval hval0
  refine (PFieldBack.groatlaw04_FieldBack.calls kk a0.f0 a0.f1 a0.f2 a1 A16_ c17_ a2 true W C20_ l19_ hf).mono fun e W' ⟨he, bel⟩ => ?_
  subst he
  exact ⟨_, rfl, _, _, _, [], _, [], hW', trodAll_mk1 (shut_bool Try.underlying4 _), (trodAll_cons_mk (Below.trod laidOut (by kernel_rfl) (of_decide_eq_true (by kernel_rfl)) k0 bel lt0) (trodAll_cons_mk (Below.trod laidOut (by kernel_rfl) (of_decide_eq_true (by kernel_rfl)) k1 bel lt1) (trodAll_cons_mk (Below.trod laidOut (by kernel_rfl) (of_decide_eq_true (by kernel_rfl)) k2 bel lt2) trodAll_mk0))), rfl, bel.frame _, fun h => by cases h⟩
theorem over : Rows.fieldBackUptoRow.holds Try.pinned (Rows.OpenSpec.upto Rows.fieldBackSpec) :=
  OpenClaim.holds_of_cond 5 Try.f5 rfl rfl rfl rfl rfl rfl rfl ⟨rfl, rfl, rfl, rfl, rfl⟩ rfl rfl rfl rfl rfl (by kernel_rfl) Try.func5 (by kernel_rfl)
    (of_decide_eq_true (by kernel_rfl)) (by unfold Func.isWrapper; first | (rw [if_pos (by decide +kernel)]; kernel_rfl) | (rw [if_neg (by decide +kernel)]; exact ⟨rfl, rfl⟩))
    (fun os started H enc _ F => lifted os started H enc F)
theorem proved : Rows.FieldBackUptoSaid := over
#print axioms proved
end Go.Proofs.Ytcgfbdleapjigaa.fieldBack
namespace Go.Proofs.Ytcgfbdleapjigaa
/-- The row, under a short name, for the claim. -/
theorem fieldBack_holds : Rows.FieldBackUptoSaid := fieldBack.proved
end Go.Proofs.Ytcgfbdleapjigaa
