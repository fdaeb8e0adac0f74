/- What a reading of the arguments of the law PlantMakes gives, and the pure statement that is left of it. Conditions: as each says. -/
import Derived.Test.YtpnijopbbbgffaaOpens
import Derived.Test.YtpnijopbbbgffaaPlantMakesW
namespace Go.Proofs.Ytpnijopbbbgffaa.opsPlantMakes
open Go.RowKit Go.Proofs.Ytpnijopbbbgffaa.opens Go.Proofs.YtpnijopbbbgffaaW.PrintWords

/-- What the walk of the law shows. -/
def Pure2 : Prop := ∀ (a0 : List Int), (∀ a ∈ a0, (Lit.int .i64 a).wf = true) → (sumOf (fun _ => 1) a0 + 1) ≤ 1048576 → ∀ (w : World) (A0 : Option Addr) (c0 : Nat), Kd.C (Kd.int .i64) w A0 a0.length a0 → a0.length ≤ c0 →
  Calls Try.prog 5 #[.slice A0 a0.length c0] w fun e w' => e = .returned (.bool true) ∧ Below w.heap.size w w'
end Go.Proofs.Ytpnijopbbbgffaa.opsPlantMakes
