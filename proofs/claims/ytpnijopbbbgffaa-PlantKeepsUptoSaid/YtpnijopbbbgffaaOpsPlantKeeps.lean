/- What a reading of the arguments of the law PlantKeeps gives, and the pure statement that is left of it. Conditions: as each says. -/
import Derived.Test.YtpnijopbbbgffaaOpens
import Derived.Test.YtpnijopbbbgffaaPlantKeepsW
namespace Go.Proofs.Ytpnijopbbbgffaa.opsPlantKeeps
open Go.RowKit Go.Proofs.Ytpnijopbbbgffaa.opens Go.Proofs.YtpnijopbbbgffaaW.PrintWords

/-- What the walk of the law shows. -/
def Pure2 : Prop := ∀ (a0 : List Int) (a1 : List Int) (a2 : List Int), (∀ a ∈ a0, (Lit.int .u8 a).wf = true) → (∀ a ∈ a1, (Lit.int .u8 a).wf = true) → (∀ a ∈ a2, (Lit.int .i64 a).wf = true) → (sumOf (fun _ => 1) a0 + 1) + (sumOf (fun _ => 1) a1 + 1) + (sumOf (fun _ => 1) a2 + 1) ≤ 1048576 → ∀ (w : World) (A0 : Option Addr) (c0 : Nat) (A1 : Option Addr) (c1 : Nat) (A2 : Option Addr) (c2 : Nat), Kd.C (Kd.int .u8) w A0 a0.length a0 → a0.length ≤ c0 → Kd.C (Kd.int .u8) w A1 a1.length a1 → a1.length ≤ c1 → Kd.C (Kd.int .i64) w A2 a2.length a2 → a2.length ≤ c2 →
  Calls Try.prog 6 #[.slice A0 a0.length c0, .slice A1 a1.length c1, .slice A2 a2.length c2] w fun e w' => e = .returned (.bool true) ∧ Below w.heap.size w w'
end Go.Proofs.Ytpnijopbbbgffaa.opsPlantKeeps
