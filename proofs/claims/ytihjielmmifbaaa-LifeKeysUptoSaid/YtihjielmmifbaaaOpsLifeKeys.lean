/- What a reading of the arguments of the law LifeKeys gives, and the pure statement that is left of it. Conditions: as each says. -/
import Derived.Test.YtihjielmmifbaaaOpens
import Derived.Test.YtihjielmmifbaaaPLifeKeysx5
namespace Go.Proofs.Ytihjielmmifbaaa.opsLifeKeys
open Go.RowKit Go.Proofs.Ytihjielmmifbaaa.opens Go.Proofs.YtihjielmmifbaaaW.PrintWords Go.Proofs.Ytihjielmmifbaaa.PLifeKeys

def G38 (x : S38) : Prop := (Lit.int .i64 x.f0).wf = true ∧ True
def μ38 (x : S38) : Nat := (1 + (x.f1.size + 1)) + 1
theorem op38 : Opn Try.prog 38 k38 G38 μ38 := by
  exact op_iso (fun a => ⟨a.1, a.2⟩) (fun _ => rfl) (op_struct Try.underlying38 (by kernel_rfl) (opfs_cons rfl (by kernel_rfl) (op_int Try.underlying3) (opfs_one rfl (by kernel_rfl) (op_string Try.underlying9))))
structure S32 where
  f0 : Int
  f1 : List S38
def z32 : S32 := ⟨(0 : Int), ([] : List S38)⟩
def k32 : Kd S32 := Kd.iso (Kd.pair (Kd.int .i64) (Kd.slice 38 k38)) (fun x : S32 => (x.f0, x.f1))
def G32 (x : S32) : Prop := (Lit.int .i64 x.f0).wf = true ∧ (∀ a ∈ x.f1, G38 a)
def μ32 (x : S32) : Nat := (1 + (sumOf μ38 x.f1 + 1)) + 1
theorem op32 : Opn Try.prog 32 k32 G32 μ32 := by
  exact op_iso (fun a => ⟨a.1, a.2⟩) (fun _ => rfl) (op_struct Try.underlying32 (by kernel_rfl) (opfs_cons rfl (by kernel_rfl) (op_int Try.underlying3) (opfs_one rfl (by kernel_rfl) (op_slice z38 Try.underlying30 (by kernel_rfl) op38))))
def Pure2 : Prop := ∀ (a0 : S32) (a1 : S32), (G32 a0) → (G32 a1) → μ32 a0 + μ32 a1 ≤ 1048576 → ∃ k, groatlaw14_LifeKeys.f k a0.f0 a0.f1 a1.f0 a1.f1 = some true
end Go.Proofs.Ytihjielmmifbaaa.opsLifeKeys
