/- Walks of layer 3's statements: kind; the calls that came in. Conditions: as each theorem says. -/
import Derived.Test.YtpnijopbbbgffaaPlantN
import Derived.Test.YtpnijopbbbgffaaPlantL
import Derived.WalkLawsBesides
namespace Go.Proofs.Ytpnijopbbbgffaa.plantw
open Go.RowKit
open Go.Proofs.Ytpnijopbbbgffaa.plantp
open Go.Proofs.Ytpnijopbbbgffaa.mapfn
open Go.Proofs.Ytpnijopbbbgffaa.buf
theorem kind_any (n : Int) (hn : -9223372036854775808 ≤ n ∧ n ≤ 9223372036854775807) (w : World) : Calls Try.prog 17 #[.int .i64 n] w fun e w' => e = .returned (.int .i64 (kindN n : Nat)) ∧ w' = w := by
  have hk := kindN_eq n
  go_enter Try.func17, Try.ntmps17
  by_cases c0 : n < 0
  · rw [if_pos c0, Int.neg_tmod] at hk
    rw [hk]
    clear hk
    have c1 : -9223372036854775808 ≤ -(n + 1) := by omega
    go_wp2_with fail
    go_ret
    exact ⟨rfl, rfl⟩
  · rw [if_neg c0, Int.tmod_eq_emod_of_nonneg (by omega)] at hk
    rw [hk]
    clear hk
    go_wp2_with fail
    go_ret
    exact ⟨rfl, rfl⟩
/-- A call of the row of calls, by its fields. -/
structure OpV where
  kind : Int
  dev : Int
  place : Int
  n : Int
  byte : UInt8
  keep : List Int
  kv : Value
def OpV.Ok (o : OpV) : Prop := ∀ x ∈ [o.kind, o.dev, o.place, o.n], -9223372036854775808 ≤ x ∧ x ≤ 9223372036854775807
def opL (o : OpV) : List Value := [.int .i64 o.kind, .int .i64 o.dev, .int .i64 o.place, .int .i64 o.n, .int .u8 o.byte.toNat, o.kv]
/-- The calls that came in. -/
def OpsIn (w : World) (A : Option Addr) (l : List OpV) : Prop := l = [] ∨ ∃ b o, A = some ⟨b, o, none⟩ ∧ b < w.heap.size ∧ ∀ i (hi : i < l.length), OpV.Ok l[i] ∧ IntsAt w l[i].kv l[i].keep ∧ ∀ j v, (opL l[i])[j]? = some v → w.cell? ⟨b, o + (i * 6 + j), none⟩ = some v
end Go.Proofs.Ytpnijopbbbgffaa.plantw
