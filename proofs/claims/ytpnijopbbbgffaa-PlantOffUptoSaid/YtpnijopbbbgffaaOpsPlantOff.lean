/- What a reading of the arguments of the law PlantOff gives, and the pure statement that is left of it. Conditions: as each says. -/
import Derived.Test.YtpnijopbbbgffaaOpens
import Derived.Test.YtpnijopbbbgffaaPlantOffW
namespace Go.Proofs.Ytpnijopbbbgffaa.opsPlantOff
open Go.RowKit Go.Proofs.Ytpnijopbbbgffaa.opens Go.Proofs.YtpnijopbbbgffaaW.PrintWords

/-- What the walk of the law shows. -/
def Pure2 : Prop := ∀ (a0 : List Int) (a1 : Int), (∀ a ∈ a0, (Lit.int .u8 a).wf = true) → ((Lit.int .i64 a1).wf = true) → (sumOf (fun _ => 1) a0 + 1) + 1 ≤ 1048576 → ∀ (w : World) (A0 : Option Addr) (c0 : Nat), Kd.C (Kd.int .u8) w A0 a0.length a0 → a0.length ≤ c0 →
  Calls Try.prog 7 #[.slice A0 a0.length c0, .int .i64 a1] w fun e w' => e = .returned (.bool true) ∧ Below w.heap.size w w'
end Go.Proofs.Ytpnijopbbbgffaa.opsPlantOff
