/- What a reading of the arguments of the law MessageWrites gives, and the pure statement that is left of it. Conditions: as each says. -/
import Derived.Test.YtommklkihjmgcaaGreatDoorOpens
import Derived.Test.YtommklkihjmgcaaGreatDoorLWrites
import Derived.Test.YtommklkihjmgcaaGreatDoorLaidX
namespace Go.Proofs.YtommklkihjmgcaaGreatDoor.opsMessageWrites
open Go.RowKit Go.Proofs.YtommklkihjmgcaaGreatDoor.opens Go.Proofs.YtommklkihjmgcaaGreatDoorW.PrintWords

structure S28 where
  f0 : Int
  f1 : ByteArray
def z28 : S28 := ⟨(0 : Int), (ByteArray.empty : ByteArray)⟩
def k28 : Kd S28 := Kd.iso (Kd.pair (Kd.int .i64) Kd.string) (fun x : S28 => (x.f0, x.f1))
def G28 (x : S28) : Prop := (Lit.int .i64 x.f0).wf = true ∧ True
def μ28 (x : S28) : Nat := (1 + (x.f1.size + 1)) + 1
theorem op28 : Opn Tryz.prog 28 k28 G28 μ28 := by
  exact op_iso (fun a => ⟨a.1, a.2⟩) (fun _ => rfl) (op_struct Tryz.underlying28 (by kernel_rfl) (opfs_cons rfl (by kernel_rfl) (op_int Tryz.underlying3) (opfs_one rfl (by kernel_rfl) (op_string Tryz.underlying9))))
structure S24 where
  f0 : Int
  f1 : List S28
def z24 : S24 := ⟨(0 : Int), ([] : List S28)⟩
def k24 : Kd S24 := Kd.iso (Kd.pair (Kd.int .i64) (Kd.slice 28 k28)) (fun x : S24 => (x.f0, x.f1))
def G24 (x : S24) : Prop := (Lit.int .i64 x.f0).wf = true ∧ (∀ a ∈ x.f1, G28 a)
def μ24 (x : S24) : Nat := (1 + (sumOf μ28 x.f1 + 1)) + 1
theorem op24 : Opn Tryz.prog 24 k24 G24 μ24 := by
  exact op_iso (fun a => ⟨a.1, a.2⟩) (fun _ => rfl) (op_struct Tryz.underlying24 (by kernel_rfl) (opfs_cons rfl (by kernel_rfl) (op_int Tryz.underlying3) (opfs_one rfl (by kernel_rfl) (op_slice z28 Tryz.underlying22 (by kernel_rfl) op28))))
/-- What the walk of the law shows. -/
def Pure2 : Prop := ∀ (a0 : Int) (a1 : S24), ((Lit.int .i64 a0).wf = true) → (G24 a1) → 1 + μ24 a1 ≤ 1048576 → ∀ (w : World) (A0 : Option Addr) (c0 : Nat), Kd.C k28 w A0 a1.f1.length a1.f1 → a1.f1.length ≤ c0 → Go.Proofs.YtommklkihjmgcaaGreatDoor.msgw.Tabs5 w →
  Calls Tryz.prog 8 #[.int .i64 a0, .agg #[.int .i64 a1.f0, .slice A0 a1.f1.length c0]] w fun e w' => e = .returned (.bool true) ∧ Below w.heap.size w w'
end Go.Proofs.YtommklkihjmgcaaGreatDoor.opsMessageWrites
