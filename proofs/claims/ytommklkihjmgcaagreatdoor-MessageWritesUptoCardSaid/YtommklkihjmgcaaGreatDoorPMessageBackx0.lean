/- Functions of the program as Lean functions, and that the Go code computes them. Written by a program of this session (wip/tools/mkprint.py, over the print of the kit), which takes some contracts from the session itself. Conditions: as each theorem says. -/
import Derived.Test.YtommklkihjmgcaaGreatDoorProg
import Derived.Below
import Derived.Deep.Draws
import Derived.Deep.AppendLies
import Derived.Maps.AppendAt
import Derived.OwnWalk
import Derived.Laws.BytesArg
import Derived.Laws.MakeOwn
import Derived.Laws.OwnMore
import Derived.Deep.OwnRows
import Derived.Tactics
import Derived.Lib.ConvBytes
import Derived.Laws.Slices
import Derived.WalkKit
import Derived.KernelRfl
import Derived.RowKit3
import Derived.Deep.LoopGhost
import Derived.Deep.QuietTactic
import Derived.BigQuiet
import Derived.WideLaws
import Derived.Deep.DeepCutAuto
import Derived.Deep.CutBlock
import Derived.Deep.RegionHeld3
import Derived.Laws.Rows
import Derived.Lib.AppendStr
import Derived.ArgAppend
import Derived.Laws.IdiomCopy
import Derived.OrdersHeld
import Derived.Laws.BitsLemmas
import Derived.RowKit
import Derived.Test.YtommklkihjmgcaaGreatDoorWWords
import Derived.Test.YtommklkihjmgcaaGreatDoorWLast
import Derived.Test.YtommklkihjmgcaaGreatDoorWTab
import Derived.Test.YtommklkihjmgcaaGreatDoorWFour
import Derived.Test.YtommklkihjmgcaaGreatDoorWQPut
import Derived.Test.YtommklkihjmgcaaGreatDoorWApart
import Derived.Test.YtommklkihjmgcaaGreatDoorWArr
import Derived.Test.YtommklkihjmgcaaGreatDoorWZeros
import Derived.Test.YtommklkihjmgcaaGreatDoorWFoot
import Derived.Test.YtommklkihjmgcaaGreatDoorWKept
import Derived.Test.YtommklkihjmgcaaGreatDoorWShare
import Derived.Test.YtommklkihjmgcaaGreatDoorWN
import Derived.Test.YtommklkihjmgcaaGreatDoorWFootNe
import Derived.Test.YtommklkihjmgcaaGreatDoorWAt
import Derived.Test.YtommklkihjmgcaaGreatDoorWEqStruct
import Derived.Test.YtommklkihjmgcaaGreatDoorWRepsOne
import Derived.Test.YtommklkihjmgcaaGreatDoorWInv
import Derived.Test.YtommklkihjmgcaaGreatDoorWInvWords
import Derived.Test.YtommklkihjmgcaaGreatDoorWGuard
import Derived.Test.YtommklkihjmgcaaGreatDoorWNEv
import Derived.Test.YtommklkihjmgcaaGreatDoorWMore
namespace Go.Proofs.YtommklkihjmgcaaGreatDoor.PMessageBack
open Go.RowKit Go.Proofs.YtommklkihjmgcaaGreatDoorW.PrintWords Go.Proofs.YtommklkihjmgcaaGreatDoorW.PrintLast Go.Proofs.YtommklkihjmgcaaGreatDoorW.PrintMore
attribute [local go_sem] max2_int min2_int max_two min_two max_three min_three max_four min_four   -- for this text's walks alone
set_option linter.unusedVariables false
set_option linter.unusedSimpArgs false



def errW : Option Int → Value
  | none => .nilIface
  | some c => .iface 87 (.int .i64 c)
theorem errW_none : errW none = .nilIface := rfl
theorem errW_some (c : Int) : errW (some c) = .iface 87 (.int .i64 c) := rfl

theorem info5 : (Tryz.prog.info? 5).map (fun i => (i.zero, i.size, i.bytes)) = some (some (.int .u8 0), 1, 1) := by kernel_rfl
-- the values' own types
/-! #### struct type 28 -/
structure S28 where
  f0 : Int
  f1 : ByteArray
def z28 : S28 := ⟨(0 : Int), (⟨#[]⟩ : ByteArray)⟩
def k28 : Kd S28 := Kd.iso (Kd.pair (Kd.int .i64) Kd.string) (fun x : S28 => (x.f0, x.f1))
theorem k28_open {w : World} {x : S28} {cs : List Value} (h : k28.K w x cs) : cs = [.int .i64 x.f0, .string x.f1] := by
  obtain ⟨_, _, rfl, rfl, rfl⟩ := h
  exact rfl
def rd_T28 (xs : List S28) (i : Int) : S28 := xs.getD i.toNat z28
theorem at_T28 {w : World} {A : Option Addr} {n : Nat} {xs : List S28} (h : Kd.C k28 w A n xs) (i : Int) (h0 : 0 ≤ i) (h1 : i < n) : ∃ ad , A = some ad ∧ w.cell? (ad.add (i.toNat * 2)) = some (.int .i64 (rd_T28 xs i).f0) ∧ w.cell? ⟨(ad.add (i.toNat * 2)).block, (ad.add (i.toNat * 2)).off + 1, none⟩ = some (.string (rd_T28 xs i).f1) := by
  obtain ⟨ad, c, e, _, hK, hc0⟩ := Kd.C_get h z28 i h0 h1
  have hc : ∀ j u, c[j]? = some u → w.cell? (ad.add (i.toNat * 2 + j)) = some u := hc0
  obtain rfl := k28_open hK
  exact ⟨ad, e, hc 0 _ rfl, by rw [← add_field _ _ 1 (by omega)]; exact hc 1 _ rfl⟩

end Go.Proofs.YtommklkihjmgcaaGreatDoor.PMessageBack
