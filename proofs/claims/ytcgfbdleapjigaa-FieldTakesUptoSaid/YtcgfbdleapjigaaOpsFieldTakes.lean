/- What a reading of the arguments of the law FieldTakes gives, and the pure statement that is left of it. Conditions: as each says. -/
import Derived.Test.YtcgfbdleapjigaaOpens
import Derived.Test.YtcgfbdleapjigaaPFieldTakesx0
import Derived.Test.YtcgfbdleapjigaaFieldTakesW
namespace Go.Proofs.Ytcgfbdleapjigaa.opsFieldTakes
open Go.RowKit Go.Proofs.Ytcgfbdleapjigaa.opens Go.Proofs.YtcgfbdleapjigaaW.PrintWords Go.Proofs.Ytcgfbdleapjigaa.PFieldTakes

def G24 (x : S24) : Prop := (Lit.int .i64 x.f0).wf = true ∧ (Lit.int .i64 x.f1).wf = true ∧ (Lit.int .i64 x.f2).wf = true
def μ24 (_ : S24) : Nat := (1 + (1 + 1)) + 1
theorem op24 : Opn Try.prog 24 k24 G24 μ24 := by
  exact op_iso (fun a => ⟨a.1, a.2.1, a.2.2⟩) (fun _ => rfl) (op_struct Try.underlying24 (by kernel_rfl) (opfs_cons rfl (by kernel_rfl) (op_int Try.underlying3) (opfs_cons rfl (by kernel_rfl) (op_int Try.underlying3) (opfs_one rfl (by kernel_rfl) (op_int Try.underlying3)))))
/-- What the walk of the law shows. -/
def Pure2 : Prop := ∀ (a0 : List Int) (a1 : S24), (∀ a ∈ a0, (Lit.int .u8 a).wf = true) → (G24 a1) → (sumOf (fun _ => 1) a0 + 1) + μ24 a1 ≤ 1048576 → ∀ (w : World) (A0 : Option Addr) (c0 : Nat), Kd.C (Kd.int .u8) w A0 a0.length a0 → a0.length ≤ c0 →
  Calls Try.prog 4 #[.slice A0 a0.length c0, .agg #[.int .i64 a1.f0, .int .i64 a1.f1, .int .i64 a1.f2]] w fun e w' => e = .returned (.bool true) ∧ Below w.heap.size w w'
end Go.Proofs.Ytcgfbdleapjigaa.opsFieldTakes
