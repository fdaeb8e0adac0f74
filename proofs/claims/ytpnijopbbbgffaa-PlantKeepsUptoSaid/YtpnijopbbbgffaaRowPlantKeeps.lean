/- The row of the law PlantKeeps for readings of bulk at most 1048576: it answers true, and its arguments read as they did. Condition: the bulk alone. -/
import Derived.Test.YtpnijopbbbgffaaRows
import Derived.Test.YtpnijopbbbgffaaOpsPlantKeeps
import Derived.Test.YtpnijopbbbgffaaPurePlantKeeps
import Derived.WalkKit
import Derived.ProofKit
import Derived.OpenShut
import Derived.ShutString
import Derived.ChangeOld
import Derived.Below
import Derived.JoinedCond
namespace Go.Proofs.Ytpnijopbbbgffaa.plantKeeps
open Go.ChangeShapes Go.WideShapes Go.ChangeAt Go.RowKit Go.Proofs.Ytpnijopbbbgffaa.opens
open Go.ChangeMaps (open_string shut_string)
set_option linter.unusedVariables false
theorem own : ownKnob Try.prog.godebug = none := by kernel_rfl
theorem laidOut : laidOutB Try.prog = true := by kernel_rfl
set_option maxRecDepth 100000 in
theorem lifted (os : Os) (started : os.Started) (H : Type) (enc : TypeId × Value → H) (F : Stop.Interp) :
    ReturnsInHanded {} Try.checked os 6 .any ((Rows.OpenSpec.upto Rows.plantKeepsSpec).pre6 enc Try.prog Try.f6 Rows.plantKeepsUptoRow.domain false) (((Rows.OpenSpec.upto Rows.plantKeepsSpec).at F).post enc Try.prog Try.f6 false true false false) := by
  refine returnsInHanded_of_cond (C := Try.checked) (s := Rows.OpenSpec.upto Rows.plantKeepsSpec) (k := Rows.uptoSmall) rfl own started (by kernel_rfl) Try.func6
    (OpenSpec.witness (enc := enc) (C := Try.checked) (s := Rows.OpenSpec.upto Rows.plantKeepsSpec) (k := Rows.uptoSmall) rfl false ⟨#[], #[.slice none 0 0, .slice none 0 0, .slice none 0 0], []⟩ 8 (by kernel_rfl) (by kernel_rfl) (by kernel_rfl)
      (x := ([.nil, .nil, .nil], [], [])) (by kernel_rfl) rfl (by kernel_rfl)) ?_
  intro W base args ds gs before hval0 hW _ hk _
  have hval : ∀ (j : Nat) t v, Try.f6.params[j]? = some t → args[j]? = some v → Value.okWide Try.prog W .any base t v := hval0
  have hW' := hW
  obtain ⟨p, q, hA0, hV, rfl, hfz, hnd⟩ := hW
  have hA : DataW.TrodAll enc Try.prog W 0 (fun _ => true) true Try.f6.params.toList args.toList ds p := hA0
  rw [Try.params6] at hA hval
  obtain ⟨v0, vs0, d0, ds0, p0, q0, hargs, rfl, rfl, h0, r0⟩ := trodAll_cons hA
  obtain ⟨v1, vs1, d1, ds1, p1, q1, rfl, rfl, rfl, h1, r1⟩ := trodAll_cons r0
  obtain ⟨v2, vs2, d2, ds2, p2, q2, rfl, rfl, rfl, h2, r2⟩ := trodAll_cons r1
  obtain ⟨rfl, rfl, rfl⟩ := trodAll_nil r2
  obtain rfl : args = #[v0, v1, v2] := by cases args; simp_all
  obtain ⟨rfl, rfl⟩ := trodVars_none hV
  have k0 := h0
  have lt0 : ∀ x ∈ p0, x.block < W.heap.size := by obtain ⟨m, hm⟩ := k0; exact DataW.trod_lt m _ _ _ hm
  obtain ⟨a0, hK0, hG0, hm0⟩ := op_arg (op_slice 0 Try.underlying22 (by kernel_rfl) (op_int Try.underlying5)) h0
  obtain ⟨ad0, len0, cap0, rfl⟩ := okWide_slice Try.underlying22 (hval 0 22 v0 rfl rfl)
  obtain ⟨A1_, c2_, e3_, l4_, C5_⟩ := hK0
  have e3_' : (Value.slice ad0 len0 cap0) = .slice A1_ a0.length c2_ := by simpa [Value.cells] using e3_
  rw [e3_'] at hW' k0 ⊢
  have k1 := h1
  have lt1 : ∀ x ∈ p1, x.block < W.heap.size := by obtain ⟨m, hm⟩ := k1; exact DataW.trod_lt m _ _ _ hm
  obtain ⟨a1, hK1, hG1, hm1⟩ := op_arg (op_slice 0 Try.underlying22 (by kernel_rfl) (op_int Try.underlying5)) h1
  obtain ⟨ad1, len1, cap1, rfl⟩ := okWide_slice Try.underlying22 (hval 1 22 v1 rfl rfl)
  obtain ⟨A6_, c7_, e8_, l9_, C10_⟩ := hK1
  have e8_' : (Value.slice ad1 len1 cap1) = .slice A6_ a1.length c7_ := by simpa [Value.cells] using e8_
  rw [e8_'] at hW' k1 ⊢
  have k2 := h2
  have lt2 : ∀ x ∈ p2, x.block < W.heap.size := by obtain ⟨m, hm⟩ := k2; exact DataW.trod_lt m _ _ _ hm
  obtain ⟨a2, hK2, hG2, hm2⟩ := op_arg (op_slice 0 Try.underlying28 (by kernel_rfl) (op_int Try.underlying3)) h2
  obtain ⟨ad2, len2, cap2, rfl⟩ := okWide_slice Try.underlying28 (hval 2 28 v2 rfl rfl)
  obtain ⟨A11_, c12_, e13_, l14_, C15_⟩ := hK2
  have e13_' : (Value.slice ad2 len2 cap2) = .slice A11_ a2.length c12_ := by simpa [Value.cells] using e13_
  rw [e13_'] at hW' k2 ⊢
  have hb := small hk
  simp only [List.append_nil, Rows.uptoBulkAll] at hb
  have hw := Pure.PlantKeeps a0 a1 a2 hG0 hG1 hG2 (by clear hval hk; omega) W A1_ c2_ A6_ c7_ A11_ c12_ C5_ l4_ C10_ l9_ C15_ l14_
  clear hA0 hval hval0
  refine hw.mono fun e W' ⟨he, bel⟩ => ?_
  subst he
  exact ⟨_, rfl, _, _, _, [], _, [], hW', trodAll_mk1 (shut_bool Try.underlying4 _), (trodAll_cons_mk (Below.trod laidOut (by kernel_rfl) (of_decide_eq_true (by kernel_rfl)) k0 bel lt0) (trodAll_cons_mk (Below.trod laidOut (by kernel_rfl) (of_decide_eq_true (by kernel_rfl)) k1 bel lt1) (trodAll_cons_mk (Below.trod laidOut (by kernel_rfl) (of_decide_eq_true (by kernel_rfl)) k2 bel lt2) trodAll_mk0))), rfl, bel.frame _, fun h => by cases h⟩
theorem over : Rows.plantKeepsUptoRow.holds Try.pinned (Rows.OpenSpec.upto Rows.plantKeepsSpec) :=
  OpenClaim.holds_of_cond 6 Try.f6 rfl rfl rfl rfl rfl rfl rfl ⟨rfl, rfl, rfl, rfl, rfl⟩ rfl rfl rfl rfl rfl (by kernel_rfl) Try.func6 (by kernel_rfl)
    (of_decide_eq_true (by kernel_rfl)) (by unfold Func.isWrapper; first | (rw [if_pos (by decide +kernel)]; kernel_rfl) | (rw [if_neg (by decide +kernel)]; exact ⟨rfl, rfl⟩))
    (fun os started H enc _ F => lifted os started H enc F)
theorem proved : Rows.PlantKeepsUptoSaid := over
#print axioms proved
end Go.Proofs.Ytpnijopbbbgffaa.plantKeeps
namespace Go.Proofs.Ytpnijopbbbgffaa
/-- The row, under a short name, for the claim. -/
theorem plantKeeps_holds : Rows.PlantKeepsUptoSaid := plantKeeps.proved
end Go.Proofs.Ytpnijopbbbgffaa
