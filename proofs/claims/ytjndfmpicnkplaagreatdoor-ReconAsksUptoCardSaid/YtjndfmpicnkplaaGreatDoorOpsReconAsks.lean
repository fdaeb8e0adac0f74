/- What a reading of the arguments of the law ReconAsks gives, and the pure statement that is left of it. Conditions: as each says. -/
import Derived.Test.YtjndfmpicnkplaaGreatDoorOpens
import Derived.Test.YtjndfmpicnkplaaGreatDoorAsksW
namespace Go.Proofs.YtjndfmpicnkplaaGreatDoor.opsReconAsks
open Go.RowKit Go.Proofs.YtjndfmpicnkplaaGreatDoor.opens Go.Proofs.YtjndfmpicnkplaaGreatDoorW.PrintWords

structure S23 where
  f0 : Int
  f1 : Int
  f2 : Int
  f3 : Int
  f4 : Int
  f5 : Int
def z23 : S23 := ⟨(0 : Int), (0 : Int), (0 : Int), (0 : Int), (0 : Int), (0 : Int)⟩
def k23 : Kd S23 := Kd.iso (Kd.pair (Kd.int .i64) (Kd.pair (Kd.int .i64) (Kd.pair (Kd.int .i64) (Kd.pair (Kd.int .i64) (Kd.pair (Kd.int .i64) (Kd.int .i64)))))) (fun x : S23 => (x.f0, x.f1, x.f2, x.f3, x.f4, x.f5))
def G23 (x : S23) : Prop := (Lit.int .i64 x.f0).wf = true ∧ (Lit.int .i64 x.f1).wf = true ∧ (Lit.int .i64 x.f2).wf = true ∧ (Lit.int .i64 x.f3).wf = true ∧ (Lit.int .i64 x.f4).wf = true ∧ (Lit.int .i64 x.f5).wf = true
def μ23 (_ : S23) : Nat := (1 + (1 + (1 + (1 + (1 + 1))))) + 1
theorem op23 : Opn Tryz.prog 23 k23 G23 μ23 := by
  exact op_iso (fun a => ⟨a.1, a.2.1, a.2.2.1, a.2.2.2.1, a.2.2.2.2.1, a.2.2.2.2.2⟩) (fun _ => rfl) (op_struct Tryz.underlying23 (by kernel_rfl) (opfs_cons rfl (by kernel_rfl) (op_int Tryz.underlying3) (opfs_cons rfl (by kernel_rfl) (op_int Tryz.underlying3) (opfs_cons rfl (by kernel_rfl) (op_int Tryz.underlying3) (opfs_cons rfl (by kernel_rfl) (op_int Tryz.underlying3) (opfs_cons rfl (by kernel_rfl) (op_int Tryz.underlying3) (opfs_one rfl (by kernel_rfl) (op_int Tryz.underlying3))))))))
structure S25 where
  f0 : ByteArray
  f1 : ByteArray
  f2 : ByteArray
  f3 : S23
def z25 : S25 := ⟨(ByteArray.empty : ByteArray), (ByteArray.empty : ByteArray), (ByteArray.empty : ByteArray), (z23 : S23)⟩
def k25 : Kd S25 := Kd.iso (Kd.pair Kd.string (Kd.pair Kd.string (Kd.pair Kd.string k23))) (fun x : S25 => (x.f0, x.f1, x.f2, x.f3))
def G25 (x : S25) : Prop := True ∧ True ∧ True ∧ G23 x.f3
def μ25 (x : S25) : Nat := ((x.f0.size + 1) + ((x.f1.size + 1) + ((x.f2.size + 1) + μ23 x.f3))) + 1
theorem op25 : Opn Tryz.prog 25 k25 G25 μ25 := by
  exact op_iso (fun a => ⟨a.1, a.2.1, a.2.2.1, a.2.2.2⟩) (fun _ => rfl) (op_struct Tryz.underlying25 (by kernel_rfl) (opfs_cons rfl (by kernel_rfl) (op_string Tryz.underlying9) (opfs_cons rfl (by kernel_rfl) (op_string Tryz.underlying9) (opfs_cons rfl (by kernel_rfl) (op_string Tryz.underlying9) (opfs_one rfl (by kernel_rfl) op23)))))
/-- What the walk of the law shows. -/
def Pure2 : Prop := ∀ (a0 : S25), (G25 a0) → μ25 a0 ≤ 1048576 → ∀ (w : World), Go.Proofs.YtjndfmpicnkplaaGreatDoor.msgw.Tabs w →
  Calls Tryz.prog 3 #[.agg #[.string a0.f0, .string a0.f1, .string a0.f2, .int .i64 a0.f3.f0, .int .i64 a0.f3.f1, .int .i64 a0.f3.f2, .int .i64 a0.f3.f3, .int .i64 a0.f3.f4, .int .i64 a0.f3.f5]] w fun e w' => e = .returned (.bool true) ∧ Below w.heap.size w w'
end Go.Proofs.YtjndfmpicnkplaaGreatDoor.opsReconAsks
