/- The row of the law LifeKeys for readings of bulk at most 1048576: it answers true, and its arguments read as they did. Condition: the bulk alone. -/
import Derived.Test.YtihjielmmifbaaaRows
import Derived.Test.YtihjielmmifbaaaOpsLifeKeys
import Derived.Test.YtihjielmmifbaaaPureLifeKeys
import Derived.WalkKit
import Derived.ProofKit
import Derived.OpenShut
import Derived.ShutString
import Derived.ChangeOld
import Derived.Below
import Derived.JoinedCond
namespace Go.Proofs.Ytihjielmmifbaaa.lifeKeys
open Go.ChangeShapes Go.WideShapes Go.ChangeAt Go.RowKit Go.Proofs.Ytihjielmmifbaaa.opens
open Go.ChangeMaps (open_string shut_string)
set_option linter.unusedVariables false
theorem own : ownKnob Try.prog.godebug = none := by kernel_rfl
theorem laidOut : laidOutB Try.prog = true := by kernel_rfl
set_option maxRecDepth 100000 in
theorem lifted (os : Os) (started : os.Started) (H : Type) (enc : TypeId × Value → H) (F : Stop.Interp) :
    ReturnsInHanded {} Try.checked os 7 .any ((Rows.OpenSpec.upto Rows.lifeKeysSpec).pre6 enc Try.prog Try.f7 Rows.lifeKeysUptoRow.domain false) (((Rows.OpenSpec.upto Rows.lifeKeysSpec).at F).post enc Try.prog Try.f7 false true false false) := by
  refine returnsInHanded_of_cond (C := Try.checked) (s := Rows.OpenSpec.upto Rows.lifeKeysSpec) (k := Rows.uptoSmall) rfl own started (by kernel_rfl) Try.func7
    (OpenSpec.witness (enc := enc) (C := Try.checked) (s := Rows.OpenSpec.upto Rows.lifeKeysSpec) (k := Rows.uptoSmall) rfl false ⟨#[], #[.agg #[.int .i64 0, .slice none 0 0], .agg #[.int .i64 0, .slice none 0 0]], []⟩ 8 (by kernel_rfl) (by kernel_rfl) (by kernel_rfl)
      (x := ([.agg [.lit (.int .i64 0), .nil], .agg [.lit (.int .i64 0), .nil]], [], [])) (by kernel_rfl) rfl (by kernel_rfl)) ?_
  intro W base args ds gs before hval0 hW _ hk _
  have hval : ∀ (j : Nat) t v, Try.f7.params[j]? = some t → args[j]? = some v → Value.okWide Try.prog W .any base t v := hval0
  have hW' := hW
  obtain ⟨p, q, hA0, hV, rfl, hfz, hnd⟩ := hW
  have hA : DataW.TrodAll enc Try.prog W 0 (fun _ => true) true Try.f7.params.toList args.toList ds p := hA0
  rw [Try.params7] at hA hval
  obtain ⟨v0, vs0, d0, ds0, p0, q0, hargs, rfl, rfl, h0, r0⟩ := trodAll_cons hA
  obtain ⟨v1, vs1, d1, ds1, p1, q1, rfl, rfl, rfl, h1, r1⟩ := trodAll_cons r0
  obtain ⟨rfl, rfl, rfl⟩ := trodAll_nil r1
  obtain rfl : args = #[v0, v1] := by cases args; simp_all
  obtain ⟨rfl, rfl⟩ := trodVars_none hV
  have k0 := h0
  have lt0 : ∀ x ∈ p0, x.block < W.heap.size := by obtain ⟨m, hm⟩ := k0; exact DataW.trod_lt m _ _ _ hm
  obtain ⟨a0, hK0, hG0, hm0⟩ := op_arg (opsLifeKeys.op32) h0
  obtain ⟨cs0, rfl, _⟩ := okWide_struct Try.underlying32 (hval 0 32 v0 rfl rfl)
  obtain ⟨s1_, s2_, e3_, h4_, h5_⟩ := hK0
  have e6_ : _ = [(.int .i64 a0.f0 : Value)] := h4_
  obtain ⟨A7_, c8_, e9_, l10_, C11_⟩ := h5_
  have e12_ : (Value.agg cs0).cells.toList = [(.int .i64 a0.f0 : Value), (.slice A7_ a0.f1.length c8_ : Value)] := by rw [e3_]; rw [e6_]; rw [e9_]; rfl
  obtain rfl : cs0 = #[(.int .i64 a0.f0 : Value), (.slice A7_ a0.f1.length c8_ : Value)] := by apply Array.ext'; exact e12_
  have k1 := h1
  have lt1 : ∀ x ∈ p1, x.block < W.heap.size := by obtain ⟨m, hm⟩ := k1; exact DataW.trod_lt m _ _ _ hm
  obtain ⟨a1, hK1, hG1, hm1⟩ := op_arg (opsLifeKeys.op32) h1
  obtain ⟨cs1, rfl, _⟩ := okWide_struct Try.underlying32 (hval 1 32 v1 rfl rfl)
  obtain ⟨s13_, s14_, e15_, h16_, h17_⟩ := hK1
  have e18_ : _ = [(.int .i64 a1.f0 : Value)] := h16_
  obtain ⟨A19_, c20_, e21_, l22_, C23_⟩ := h17_
  have e24_ : (Value.agg cs1).cells.toList = [(.int .i64 a1.f0 : Value), (.slice A19_ a1.f1.length c20_ : Value)] := by rw [e15_]; rw [e18_]; rw [e21_]; rfl
  obtain rfl : cs1 = #[(.int .i64 a1.f0 : Value), (.slice A19_ a1.f1.length c20_ : Value)] := by apply Array.ext'; exact e24_
  have hb := small hk
  simp only [List.append_nil, Rows.uptoBulkAll] at hb
  obtain ⟨kk, hf⟩ := Pure.LifeKeys a0 a1 hG0 hG1 (by clear hval hk; omega)
  clear hA0 hval hval0
  refine (PLifeKeys.groatlaw14_LifeKeys.calls kk a0.f0 A7_ c8_ a0.f1 a1.f0 A19_ c20_ a1.f1 true W C11_ l10_ C23_ l22_ hf).mono fun e W' ⟨he, bel⟩ => ?_
  subst he
  exact ⟨_, rfl, _, _, _, [], _, [], hW', trodAll_mk1 (shut_bool Try.underlying4 _), (trodAll_cons_mk (Below.trod laidOut (by kernel_rfl) (of_decide_eq_true (by kernel_rfl)) k0 bel lt0) (trodAll_cons_mk (Below.trod laidOut (by kernel_rfl) (of_decide_eq_true (by kernel_rfl)) k1 bel lt1) trodAll_mk0)), rfl, bel.frame _, fun h => by cases h⟩
theorem over : Rows.lifeKeysUptoRow.holds Try.pinned (Rows.OpenSpec.upto Rows.lifeKeysSpec) :=
  OpenClaim.holds_of_cond 7 Try.f7 rfl rfl rfl rfl rfl rfl rfl ⟨rfl, rfl, rfl, rfl, rfl⟩ rfl rfl rfl rfl rfl (by kernel_rfl) Try.func7 (by kernel_rfl)
    (of_decide_eq_true (by kernel_rfl)) (by unfold Func.isWrapper; first | (rw [if_pos (by decide +kernel)]; kernel_rfl) | (rw [if_neg (by decide +kernel)]; exact ⟨rfl, rfl⟩))
    (fun os started H enc _ F => lifted os started H enc F)
theorem proved : Rows.LifeKeysUptoSaid := over
#print axioms proved
end Go.Proofs.Ytihjielmmifbaaa.lifeKeys
namespace Go.Proofs.Ytihjielmmifbaaa
/-- The row, under a short name, for the claim. -/
theorem lifeKeys_holds : Rows.LifeKeysUptoSaid := lifeKeys.proved
end Go.Proofs.Ytihjielmmifbaaa
