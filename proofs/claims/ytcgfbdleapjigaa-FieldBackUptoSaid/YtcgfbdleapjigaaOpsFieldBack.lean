/- What a reading of the arguments of the law FieldBack gives, and the pure statement that is left of it. Conditions: as each says. -/
import Derived.Test.YtcgfbdleapjigaaOpens
import Derived.Test.YtcgfbdleapjigaaPFieldBackx3
namespace Go.Proofs.Ytcgfbdleapjigaa.opsFieldBack
open Go.RowKit Go.Proofs.Ytcgfbdleapjigaa.opens Go.Proofs.YtcgfbdleapjigaaW.PrintWords Go.Proofs.Ytcgfbdleapjigaa.PFieldBack

def G24 (x : S24) : Prop := (Lit.int .i64 x.f0).wf = true ∧ (Lit.int .i64 x.f1).wf = true ∧ (Lit.int .i64 x.f2).wf = true
def μ24 (_ : S24) : Nat := (1 + (1 + 1)) + 1
theorem op24 : Opn Try.prog 24 k24 G24 μ24 := by
  exact op_iso (fun a => ⟨a.1, a.2.1, a.2.2⟩) (fun _ => rfl) (op_struct Try.underlying24 (by kernel_rfl) (opfs_cons rfl (by kernel_rfl) (op_int Try.underlying3) (opfs_cons rfl (by kernel_rfl) (op_int Try.underlying3) (opfs_one rfl (by kernel_rfl) (op_int Try.underlying3)))))
def Pure2 : Prop := ∀ (a0 : S24) (a1 : ByteArray) (a2 : List Int), (G24 a0) → (∀ a ∈ a2, (Lit.int .u8 a).wf = true) → μ24 a0 + (a1.size + 1) + (sumOf (fun _ => 1) a2 + 1) ≤ 1048576 → ∃ k, groatlaw04_FieldBack.f k a0.f0 a0.f1 a0.f2 a1 a2 = some true
end Go.Proofs.Ytcgfbdleapjigaa.opsFieldBack
