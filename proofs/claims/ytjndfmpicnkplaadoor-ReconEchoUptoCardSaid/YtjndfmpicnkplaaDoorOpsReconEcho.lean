/- What a reading of the arguments of the law ReconEcho gives, and the pure statement that is left of it. Conditions: as each says. -/
import Derived.Test.YtjndfmpicnkplaaDoorOpens
import Derived.Test.YtjndfmpicnkplaaDoorRecI
namespace Go.Proofs.YtjndfmpicnkplaaDoor.opsReconEcho
open Go.RowKit Go.Proofs.YtjndfmpicnkplaaDoor.opens Go.Proofs.YtjndfmpicnkplaaDoorW.PrintWords

structure S45 where
  f0 : Int
  f1 : ByteArray
def z45 : S45 := ⟨(0 : Int), (ByteArray.empty : ByteArray)⟩
def k45 : Kd S45 := Kd.iso (Kd.pair (Kd.int .i64) Kd.string) (fun x : S45 => (x.f0, x.f1))
def G45 (x : S45) : Prop := (Lit.int .i64 x.f0).wf = true ∧ True
def μ45 (x : S45) : Nat := (1 + (x.f1.size + 1)) + 1
theorem op45 : Opn Tryd.prog 45 k45 G45 μ45 := by
  exact op_iso (fun a => ⟨a.1, a.2⟩) (fun _ => rfl) (op_struct Tryd.underlying45 (by kernel_rfl) (opfs_cons rfl (by kernel_rfl) (op_int Tryd.underlying3) (opfs_one rfl (by kernel_rfl) (op_string Tryd.underlying9))))
structure S32 where
  f0 : Int
  f1 : List S45
def z32 : S32 := ⟨(0 : Int), ([] : List S45)⟩
def k32 : Kd S32 := Kd.iso (Kd.pair (Kd.int .i64) (Kd.slice 45 k45)) (fun x : S32 => (x.f0, x.f1))
def G32 (x : S32) : Prop := (Lit.int .i64 x.f0).wf = true ∧ (∀ a ∈ x.f1, G45 a)
def μ32 (x : S32) : Nat := (1 + (sumOf μ45 x.f1 + 1)) + 1
theorem op32 : Opn Tryd.prog 32 k32 G32 μ32 := by
  exact op_iso (fun a => ⟨a.1, a.2⟩) (fun _ => rfl) (op_struct Tryd.underlying32 (by kernel_rfl) (opfs_cons rfl (by kernel_rfl) (op_int Tryd.underlying3) (opfs_one rfl (by kernel_rfl) (op_slice z45 Tryd.underlying30 (by kernel_rfl) op45))))
structure S23 where
  f0 : Int
  f1 : Int
  f2 : Int
  f3 : Int
  f4 : Int
  f5 : Int
def z23 : S23 := ⟨(0 : Int), (0 : Int), (0 : Int), (0 : Int), (0 : Int), (0 : Int)⟩
def k23 : Kd S23 := Kd.iso (Kd.pair (Kd.int .i64) (Kd.pair (Kd.int .i64) (Kd.pair (Kd.int .i64) (Kd.pair (Kd.int .i64) (Kd.pair (Kd.int .i64) (Kd.int .i64)))))) (fun x : S23 => (x.f0, x.f1, x.f2, x.f3, x.f4, x.f5))
def G23 (x : S23) : Prop := (Lit.int .i64 x.f0).wf = true ∧ (Lit.int .i64 x.f1).wf = true ∧ (Lit.int .i64 x.f2).wf = true ∧ (Lit.int .i64 x.f3).wf = true ∧ (Lit.int .i64 x.f4).wf = true ∧ (Lit.int .i64 x.f5).wf = true
def μ23 (_ : S23) : Nat := (1 + (1 + (1 + (1 + (1 + 1))))) + 1
theorem op23 : Opn Tryd.prog 23 k23 G23 μ23 := by
  exact op_iso (fun a => ⟨a.1, a.2.1, a.2.2.1, a.2.2.2.1, a.2.2.2.2.1, a.2.2.2.2.2⟩) (fun _ => rfl) (op_struct Tryd.underlying23 (by kernel_rfl) (opfs_cons rfl (by kernel_rfl) (op_int Tryd.underlying3) (opfs_cons rfl (by kernel_rfl) (op_int Tryd.underlying3) (opfs_cons rfl (by kernel_rfl) (op_int Tryd.underlying3) (opfs_cons rfl (by kernel_rfl) (op_int Tryd.underlying3) (opfs_cons rfl (by kernel_rfl) (op_int Tryd.underlying3) (opfs_one rfl (by kernel_rfl) (op_int Tryd.underlying3))))))))
structure S28 where
  f0 : Int
  f1 : List S23
def z28 : S28 := ⟨(0 : Int), ([] : List S23)⟩
def k28 : Kd S28 := Kd.iso (Kd.pair (Kd.int .i64) (Kd.slice 23 k23)) (fun x : S28 => (x.f0, x.f1))
def G28 (x : S28) : Prop := (Lit.int .i64 x.f0).wf = true ∧ (∀ a ∈ x.f1, G23 a)
def μ28 (x : S28) : Nat := (1 + (sumOf μ23 x.f1 + 1)) + 1
theorem op28 : Opn Tryd.prog 28 k28 G28 μ28 := by
  exact op_iso (fun a => ⟨a.1, a.2⟩) (fun _ => rfl) (op_struct Tryd.underlying28 (by kernel_rfl) (opfs_cons rfl (by kernel_rfl) (op_int Tryd.underlying3) (opfs_one rfl (by kernel_rfl) (op_slice z23 Tryd.underlying26 (by kernel_rfl) op23))))
/-- What the walk of the law shows. -/
def Pure2 : Prop := ∀ (a0 : S32) (a1 : Int) (a2 : S28), (G32 a0) → ((Lit.int .i64 a1).wf = true) → (G28 a2) → μ32 a0 + 1 + μ28 a2 ≤ 1048576 → ∀ (w : World) (A0 : Option Addr) (c0 : Nat) (A1 : Option Addr) (c1 : Nat), Kd.C k45 w A0 a0.f1.length a0.f1 → a0.f1.length ≤ c0 → Kd.C k23 w A1 a2.f1.length a2.f1 → a2.f1.length ≤ c1 → Go.Proofs.YtjndfmpicnkplaaDoor.msgw.Tabs w →
  Calls Tryd.prog 4 #[.agg #[.int .i64 a0.f0, .slice A0 a0.f1.length c0], .int .i64 a1, .agg #[.int .i64 a2.f0, .slice A1 a2.f1.length c1]] w fun e w' => e = .returned (.bool true) ∧ Below w.heap.size w w'
end Go.Proofs.YtjndfmpicnkplaaDoor.opsReconEcho
