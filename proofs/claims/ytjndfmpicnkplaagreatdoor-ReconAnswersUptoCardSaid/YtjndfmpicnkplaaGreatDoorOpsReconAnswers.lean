/- What a reading of the arguments of the law ReconAnswers gives, and the pure statement that is left of it. Conditions: as each says. -/
import Derived.Test.YtjndfmpicnkplaaGreatDoorOpens
import Derived.Test.YtjndfmpicnkplaaGreatDoorAnsGlue
import Derived.Test.YtjndfmpicnkplaaGreatDoorRecQ
namespace Go.Proofs.YtjndfmpicnkplaaGreatDoor.opsReconAnswers
open Go.RowKit Go.Proofs.YtjndfmpicnkplaaGreatDoor.opens Go.Proofs.YtjndfmpicnkplaaGreatDoorW.PrintWords

structure S43 where
  f0 : Int
  f1 : ByteArray
def z43 : S43 := ⟨(0 : Int), (ByteArray.empty : ByteArray)⟩
def k43 : Kd S43 := Kd.iso (Kd.pair (Kd.int .i64) Kd.string) (fun x : S43 => (x.f0, x.f1))
def G43 (x : S43) : Prop := (Lit.int .i64 x.f0).wf = true ∧ True
def μ43 (x : S43) : Nat := (1 + (x.f1.size + 1)) + 1
theorem op43 : Opn Tryz.prog 43 k43 G43 μ43 := by
  exact op_iso (fun a => ⟨a.1, a.2⟩) (fun _ => rfl) (op_struct Tryz.underlying43 (by kernel_rfl) (opfs_cons rfl (by kernel_rfl) (op_int Tryz.underlying3) (opfs_one rfl (by kernel_rfl) (op_string Tryz.underlying9))))
structure S29 where
  f0 : Int
  f1 : List S43
def z29 : S29 := ⟨(0 : Int), ([] : List S43)⟩
def k29 : Kd S29 := Kd.iso (Kd.pair (Kd.int .i64) (Kd.slice 43 k43)) (fun x : S29 => (x.f0, x.f1))
def G29 (x : S29) : Prop := (Lit.int .i64 x.f0).wf = true ∧ (∀ a ∈ x.f1, G43 a)
def μ29 (x : S29) : Nat := (1 + (sumOf μ43 x.f1 + 1)) + 1
theorem op29 : Opn Tryz.prog 29 k29 G29 μ29 := by
  exact op_iso (fun a => ⟨a.1, a.2⟩) (fun _ => rfl) (op_struct Tryz.underlying29 (by kernel_rfl) (opfs_cons rfl (by kernel_rfl) (op_int Tryz.underlying3) (opfs_one rfl (by kernel_rfl) (op_slice z43 Tryz.underlying27 (by kernel_rfl) op43))))
structure S23 where
  f0 : Int
  f1 : Int
  f2 : Int
  f3 : Int
  f4 : Int
  f5 : Int
def z23 : S23 := ⟨(0 : Int), (0 : Int), (0 : Int), (0 : Int), (0 : Int), (0 : Int)⟩
def k23 : Kd S23 := Kd.iso (Kd.pair (Kd.int .i64) (Kd.pair (Kd.int .i64) (Kd.pair (Kd.int .i64) (Kd.pair (Kd.int .i64) (Kd.pair (Kd.int .i64) (Kd.int .i64)))))) (fun x : S23 => (x.f0, x.f1, x.f2, x.f3, x.f4, x.f5))
def G23 (x : S23) : Prop := (Lit.int .i64 x.f0).wf = true ∧ (Lit.int .i64 x.f1).wf = true ∧ (Lit.int .i64 x.f2).wf = true ∧ (Lit.int .i64 x.f3).wf = true ∧ (Lit.int .i64 x.f4).wf = true ∧ (Lit.int .i64 x.f5).wf = true
def μ23 (_ : S23) : Nat := (1 + (1 + (1 + (1 + (1 + 1))))) + 1
theorem op23 : Opn Tryz.prog 23 k23 G23 μ23 := by
  exact op_iso (fun a => ⟨a.1, a.2.1, a.2.2.1, a.2.2.2.1, a.2.2.2.2.1, a.2.2.2.2.2⟩) (fun _ => rfl) (op_struct Tryz.underlying23 (by kernel_rfl) (opfs_cons rfl (by kernel_rfl) (op_int Tryz.underlying3) (opfs_cons rfl (by kernel_rfl) (op_int Tryz.underlying3) (opfs_cons rfl (by kernel_rfl) (op_int Tryz.underlying3) (opfs_cons rfl (by kernel_rfl) (op_int Tryz.underlying3) (opfs_cons rfl (by kernel_rfl) (op_int Tryz.underlying3) (opfs_one rfl (by kernel_rfl) (op_int Tryz.underlying3))))))))
structure S37 where
  f0 : Int
  f1 : List S23
def z37 : S37 := ⟨(0 : Int), ([] : List S23)⟩
def k37 : Kd S37 := Kd.iso (Kd.pair (Kd.int .i64) (Kd.slice 23 k23)) (fun x : S37 => (x.f0, x.f1))
def G37 (x : S37) : Prop := (Lit.int .i64 x.f0).wf = true ∧ (∀ a ∈ x.f1, G23 a)
def μ37 (x : S37) : Nat := (1 + (sumOf μ23 x.f1 + 1)) + 1
theorem op37 : Opn Tryz.prog 37 k37 G37 μ37 := by
  exact op_iso (fun a => ⟨a.1, a.2⟩) (fun _ => rfl) (op_struct Tryz.underlying37 (by kernel_rfl) (opfs_cons rfl (by kernel_rfl) (op_int Tryz.underlying3) (opfs_one rfl (by kernel_rfl) (op_slice z23 Tryz.underlying35 (by kernel_rfl) op23))))
/-- What the walk of the law shows. -/
def Pure2 : Prop := ∀ (a0 : S29) (a1 : Int) (a2 : S37), (G29 a0) → ((Lit.int .i64 a1).wf = true) → (G37 a2) → μ29 a0 + 1 + μ37 a2 ≤ 1048576 → ∀ (w : World) (A0 : Option Addr) (c0 : Nat) (A1 : Option Addr) (c1 : Nat), Kd.C k43 w A0 a0.f1.length a0.f1 → a0.f1.length ≤ c0 → Kd.C k23 w A1 a2.f1.length a2.f1 → a2.f1.length ≤ c1 → Go.Proofs.YtjndfmpicnkplaaGreatDoor.msgw.Tabs w →
  Calls Tryz.prog 4 #[.agg #[.int .i64 a0.f0, .slice A0 a0.f1.length c0], .int .i64 a1, .agg #[.int .i64 a2.f0, .slice A1 a2.f1.length c1]] w fun e w' => e = .returned (.bool true) ∧ Below w.heap.size w w'
end Go.Proofs.YtjndfmpicnkplaaGreatDoor.opsReconAnswers
