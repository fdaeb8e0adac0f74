/- What a reading of the arguments of the law RouteOrder gives, and the pure statement that is left of it. Conditions: as each says. -/
import Derived.Test.YthfncbnokjikfaaDoorOpens
import Derived.Test.YthfncbnokjikfaaDoorRtI
import Derived.Test.YthfncbnokjikfaaDoorRtM
namespace Go.Proofs.YthfncbnokjikfaaDoor.opsRouteOrder
open Go.RowKit Go.Proofs.YthfncbnokjikfaaDoor.opens Go.Proofs.YthfncbnokjikfaaDoorW.PrintWords

structure S25 where
  f0 : ByteArray
  f1 : List Int
def z25 : S25 := ⟨(ByteArray.empty : ByteArray), ([] : List Int)⟩
def k25 : Kd S25 := Kd.iso (Kd.pair Kd.string (Kd.slice 3 (Kd.int .i64))) (fun x : S25 => (x.f0, x.f1))
def G25 (x : S25) : Prop := True ∧ (∀ a ∈ x.f1, (Lit.int .i64 a).wf = true)
def μ25 (x : S25) : Nat := ((x.f0.size + 1) + (sumOf (fun _ => 1) x.f1 + 1)) + 1
theorem op25 : Opn Tryd.prog 25 k25 G25 μ25 := by
  exact op_iso (fun a => ⟨a.1, a.2⟩) (fun _ => rfl) (op_struct Tryd.underlying25 (by kernel_rfl) (opfs_cons rfl (by kernel_rfl) (op_string Tryd.underlying9) (opfs_one rfl (by kernel_rfl) (op_slice 0 Tryd.underlying23 (by kernel_rfl) (op_int Tryd.underlying3)))))
/-- What the walk of the law shows. -/
def Pure2 : Prop := ∀ (a0 : List S25) (a1 : Int) (a2 : List ByteArray), (∀ a ∈ a0, G25 a) → ((Lit.int .i64 a1).wf = true) → (∀ a ∈ a2, True) → (sumOf μ25 a0 + 1) + 1 + (sumOf (fun a => (a.size + 1)) a2 + 1) ≤ 1048576 → ∀ (w : World) (A0 : Option Addr) (c0 : Nat) (A1 : Option Addr) (c1 : Nat), Kd.C k25 w A0 a0.length a0 → a0.length ≤ c0 → Kd.C Kd.string w A1 a2.length a2 → a2.length ≤ c1 →
  Calls Tryd.prog 4 #[.slice A0 a0.length c0, .int .i64 a1, .slice A1 a2.length c1] w fun e w' => e = .returned (.bool true) ∧ Below w.heap.size w w'
end Go.Proofs.YthfncbnokjikfaaDoor.opsRouteOrder
