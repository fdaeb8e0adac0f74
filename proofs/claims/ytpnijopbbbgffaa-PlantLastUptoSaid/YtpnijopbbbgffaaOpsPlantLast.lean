/- What a reading of the arguments of the law PlantLast gives, and the pure statement that is left of it. Conditions: as each says. -/
import Derived.Test.YtpnijopbbbgffaaOpens
import Derived.Test.YtpnijopbbbgffaaPlantLastW
namespace Go.Proofs.Ytpnijopbbbgffaa.opsPlantLast
open Go.RowKit Go.Proofs.Ytpnijopbbbgffaa.opens Go.Proofs.YtpnijopbbbgffaaW.PrintWords

structure S39 where
  f0 : Int
  f1 : Int
  f2 : Int
  f3 : Int
  f4 : Int
  f5 : List Int
def z39 : S39 := ⟨(0 : Int), (0 : Int), (0 : Int), (0 : Int), (0 : Int), ([] : List Int)⟩
def k39 : Kd S39 := Kd.iso (Kd.pair (Kd.int .i64) (Kd.pair (Kd.int .i64) (Kd.pair (Kd.int .i64) (Kd.pair (Kd.int .i64) (Kd.pair (Kd.int .u8) (Kd.slice 3 (Kd.int .i64))))))) (fun x : S39 => (x.f0, x.f1, x.f2, x.f3, x.f4, x.f5))
def G39 (x : S39) : Prop := (Lit.int .i64 x.f0).wf = true ∧ (Lit.int .i64 x.f1).wf = true ∧ (Lit.int .i64 x.f2).wf = true ∧ (Lit.int .i64 x.f3).wf = true ∧ (Lit.int .u8 x.f4).wf = true ∧ (∀ a ∈ x.f5, (Lit.int .i64 a).wf = true)
def μ39 (x : S39) : Nat := (1 + (1 + (1 + (1 + (1 + (sumOf (fun _ => 1) x.f5 + 1)))))) + 1
theorem op39 : Opn Try.prog 39 k39 G39 μ39 := by
  exact op_iso (fun a => ⟨a.1, a.2.1, a.2.2.1, a.2.2.2.1, a.2.2.2.2.1, a.2.2.2.2.2⟩) (fun _ => rfl) (op_struct Try.underlying39 (by kernel_rfl) (opfs_cons rfl (by kernel_rfl) (op_int Try.underlying3) (opfs_cons rfl (by kernel_rfl) (op_int Try.underlying3) (opfs_cons rfl (by kernel_rfl) (op_int Try.underlying3) (opfs_cons rfl (by kernel_rfl) (op_int Try.underlying3) (opfs_cons rfl (by kernel_rfl) (op_int Try.underlying5) (opfs_one rfl (by kernel_rfl) (op_slice 0 Try.underlying28 (by kernel_rfl) (op_int Try.underlying3)))))))))
/-- What the walk of the law shows. -/
def Pure2 : Prop := ∀ (a0 : List S39), (∀ a ∈ a0, G39 a) → (sumOf μ39 a0 + 1) ≤ 1048576 → ∀ (w : World) (A0 : Option Addr) (c0 : Nat), Kd.C k39 w A0 a0.length a0 → a0.length ≤ c0 →
  Calls Try.prog 4 #[.slice A0 a0.length c0] w fun e w' => e = .returned (.bool true) ∧ Below w.heap.size w w'
end Go.Proofs.Ytpnijopbbbgffaa.opsPlantLast
