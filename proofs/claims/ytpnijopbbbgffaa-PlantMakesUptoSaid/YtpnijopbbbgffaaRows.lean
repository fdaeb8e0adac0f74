/-
  No cell of these rows narrows 'for every input' (looked for: loops, veiled, ifaces, maps, wideKeys, modest, calm, conditions, laid).
  DERIVED. THE GIVEN ROWS OF THIS SEAT. 7 by the template 'for every input the law returns true; each argument reads behind the call as it read before'; 0 by the template 'total and deterministic' (their statements: YtpnijopbbbgffaaTotals.lean).
  GIVEN WITH THE SEED: the statements are not yours to turn. If you find one false, say at which input.
  Laid BY PROGRAM, IN A SANDBOX (cutbox-rows.mjs): the forced cells as the released guide's own fill.sh prints them over the translation 1e08d36b796d840a… (all of the seat's roots in one cut). By AI agents, Wed Nov 11 2026. No macro, syntax, notation, axiom, sorry.
-/
import Derived.Test.YtpnijopbbbgffaaChecked
import GoSem.Claim
import GoSem.ClaimJoined
import GoSem.ClaimMapViews
import Derived.JoinedTies
import Derived.KernelRfl
namespace Go.Proofs.Ytpnijopbbbgffaa
/- THE CELL 'sum', in the pinned program and in every row, IS THE sha256 OF THE DUMP (.gsa) THAT YtpnijopbbbgffaaProg.lean LOADS. Nothing in Lean hashes anything: it is a label: what it is worth is what the hold of that sum in a sandbox is worth. -/
noncomputable def Try.pinned : Pinned := { name := "ytpnijopbbbgffaa", sum := "1e08d36b796d840af2e92198a624f8c15fa2d7f28a919b311087eb9c24e3a169", checked := Try.checked }
namespace Rows
def none {H : Type} : Left H := { results := [], args := [] }

/-- 'groatlaw03.PlantApart': WHATEVER THE INPUT: true; the input reads as it did. -/
def plantApartSpec : ChangeSpec := { name := "plantApart", fn := fun _ => fun
  | [d1, d2] => { results := [.lit (.bool true)], args := [d1, d2] }
  | _ => none }
def plantApartRow : OpenClaim := { program := "ytpnijopbbbgffaa", sum := "1e08d36b796d840af2e92198a624f8c15fa2d7f28a919b311087eb9c24e3a169", func := "groat/groatlaw03.PlantApart", spec := "plantApart", unfollowed := true, recurses := true, apart := false }
def PlantApartSaid : Prop := plantApartRow.holds Try.pinned (OpenSpec.ofChange plantApartSpec)

/-- ITS FALSE NEIGHBOUR: 'it returns false'. Refute it at one input. -/
def plantApartWrong : ChangeSpec := { name := "plantApart", fn := fun _ => fun
  | [d1, d2] => { results := [.lit (.bool false)], args := [d1, d2] }
  | _ => none }
def PlantApartWrongFalsely : Prop := plantApartRow.holds Try.pinned (OpenSpec.ofChange plantApartWrong)

/-- 'groatlaw03.PlantLast': WHATEVER THE INPUT: true; the input reads as it did. -/
def plantLastSpec : ChangeSpec := { name := "plantLast", fn := fun _ => fun
  | [d] => { results := [.lit (.bool true)], args := [d] }
  | _ => none }
def plantLastRow : OpenClaim := { program := "ytpnijopbbbgffaa", sum := "1e08d36b796d840af2e92198a624f8c15fa2d7f28a919b311087eb9c24e3a169", func := "groat/groatlaw03.PlantLast", spec := "plantLast", unfollowed := true, recurses := true, apart := false }
def PlantLastSaid : Prop := plantLastRow.holds Try.pinned (OpenSpec.ofChange plantLastSpec)

/-- ITS FALSE NEIGHBOUR: 'it returns false'. Refute it at one input. -/
def plantLastWrong : ChangeSpec := { name := "plantLast", fn := fun _ => fun
  | [d] => { results := [.lit (.bool false)], args := [d] }
  | _ => none }
def PlantLastWrongFalsely : Prop := plantLastRow.holds Try.pinned (OpenSpec.ofChange plantLastWrong)

/-- 'groatlaw03.PlantMakes': WHATEVER THE INPUT: true; the input reads as it did. -/
def plantMakesSpec : ChangeSpec := { name := "plantMakes", fn := fun _ => fun
  | [d] => { results := [.lit (.bool true)], args := [d] }
  | _ => none }
def plantMakesRow : OpenClaim := { program := "ytpnijopbbbgffaa", sum := "1e08d36b796d840af2e92198a624f8c15fa2d7f28a919b311087eb9c24e3a169", func := "groat/groatlaw03.PlantMakes", spec := "plantMakes", unfollowed := true, recurses := true, apart := false }
def PlantMakesSaid : Prop := plantMakesRow.holds Try.pinned (OpenSpec.ofChange plantMakesSpec)

/-- ITS FALSE NEIGHBOUR: 'it returns false'. Refute it at one input. -/
def plantMakesWrong : ChangeSpec := { name := "plantMakes", fn := fun _ => fun
  | [d] => { results := [.lit (.bool false)], args := [d] }
  | _ => none }
def PlantMakesWrongFalsely : Prop := plantMakesRow.holds Try.pinned (OpenSpec.ofChange plantMakesWrong)

/-- 'groatlaw03.PlantKeeps': WHATEVER THE INPUT: true; the input reads as it did. -/
def plantKeepsSpec : ChangeSpec := { name := "plantKeeps", fn := fun _ => fun
  | [d1, d2, d3] => { results := [.lit (.bool true)], args := [d1, d2, d3] }
  | _ => none }
def plantKeepsRow : OpenClaim := { program := "ytpnijopbbbgffaa", sum := "1e08d36b796d840af2e92198a624f8c15fa2d7f28a919b311087eb9c24e3a169", func := "groat/groatlaw03.PlantKeeps", spec := "plantKeeps", inPlace := ["maps.clone"], unfollowed := true, recurses := true, apart := false }
def PlantKeepsSaid : Prop := plantKeepsRow.holds Try.pinned (OpenSpec.ofChange plantKeepsSpec)

/-- ITS FALSE NEIGHBOUR: 'it returns false'. Refute it at one input. -/
def plantKeepsWrong : ChangeSpec := { name := "plantKeeps", fn := fun _ => fun
  | [d1, d2, d3] => { results := [.lit (.bool false)], args := [d1, d2, d3] }
  | _ => none }
def PlantKeepsWrongFalsely : Prop := plantKeepsRow.holds Try.pinned (OpenSpec.ofChange plantKeepsWrong)

/-- 'groatlaw03.PlantOff': WHATEVER THE INPUT: true; the input reads as it did. -/
def plantOffSpec : ChangeSpec := { name := "plantOff", fn := fun _ => fun
  | [d1, d2] => { results := [.lit (.bool true)], args := [d1, d2] }
  | _ => none }
def plantOffRow : OpenClaim := { program := "ytpnijopbbbgffaa", sum := "1e08d36b796d840af2e92198a624f8c15fa2d7f28a919b311087eb9c24e3a169", func := "groat/groatlaw03.PlantOff", spec := "plantOff", inPlace := ["maps.clone"], unfollowed := true, recurses := true, apart := false }
def PlantOffSaid : Prop := plantOffRow.holds Try.pinned (OpenSpec.ofChange plantOffSpec)

/-- ITS FALSE NEIGHBOUR: 'it returns false'. Refute it at one input. -/
def plantOffWrong : ChangeSpec := { name := "plantOff", fn := fun _ => fun
  | [d1, d2] => { results := [.lit (.bool false)], args := [d1, d2] }
  | _ => none }
def PlantOffWrongFalsely : Prop := plantOffRow.holds Try.pinned (OpenSpec.ofChange plantOffWrong)

/-- 'groatlaw03.PlantHalves': WHATEVER THE INPUT: true; the input reads as it did. -/
def plantHalvesSpec : ChangeSpec := { name := "plantHalves", fn := fun _ => fun
  | [d1, d2] => { results := [.lit (.bool true)], args := [d1, d2] }
  | _ => none }
def plantHalvesRow : OpenClaim := { program := "ytpnijopbbbgffaa", sum := "1e08d36b796d840af2e92198a624f8c15fa2d7f28a919b311087eb9c24e3a169", func := "groat/groatlaw03.PlantHalves", spec := "plantHalves", inPlace := ["maps.clone"], unfollowed := true, recurses := true, apart := false }
def PlantHalvesSaid : Prop := plantHalvesRow.holds Try.pinned (OpenSpec.ofChange plantHalvesSpec)

/-- ITS FALSE NEIGHBOUR: 'it returns false'. Refute it at one input. -/
def plantHalvesWrong : ChangeSpec := { name := "plantHalves", fn := fun _ => fun
  | [d1, d2] => { results := [.lit (.bool false)], args := [d1, d2] }
  | _ => none }
def PlantHalvesWrongFalsely : Prop := plantHalvesRow.holds Try.pinned (OpenSpec.ofChange plantHalvesWrong)

/-- 'groatlaw03.PlantPlays': WHATEVER THE INPUT: true; the input reads as it did. -/
def plantPlaysSpec : ChangeSpec := { name := "plantPlays", fn := fun _ => fun
  | [d1, d2] => { results := [.lit (.bool true)], args := [d1, d2] }
  | _ => none }
def plantPlaysRow : OpenClaim := { program := "ytpnijopbbbgffaa", sum := "1e08d36b796d840af2e92198a624f8c15fa2d7f28a919b311087eb9c24e3a169", func := "groat/groatlaw03.PlantPlays", spec := "plantPlays", inPlace := ["maps.clone"], unfollowed := true, recurses := true, apart := false }
def PlantPlaysSaid : Prop := plantPlaysRow.holds Try.pinned (OpenSpec.ofChange plantPlaysSpec)

/-- ITS FALSE NEIGHBOUR: 'it returns false'. Refute it at one input. -/
def plantPlaysWrong : ChangeSpec := { name := "plantPlays", fn := fun _ => fun
  | [d1, d2] => { results := [.lit (.bool false)], args := [d1, d2] }
  | _ => none }
def PlantPlaysWrongFalsely : Prop := plantPlaysRow.holds Try.pinned (OpenSpec.ofChange plantPlaysWrong)

/- THE SECOND FORM. 'bulk': how many values and letters a reading holds, each counted each time it is reached (what is shared counts as often as it is met; a slice's spare places count too). A statement '..UptoSaid' is the law's where the arguments, and the package variables that the reading takes, are together of bulk at most 1048576: NARROWER than '..Said'. Prove '..Said' where nothing that the law and all that it calls make is longer than what came in: it says more and counts as full. Else prove '..UptoSaid'. A law counts once. -/
mutual
def uptoBulk {H : Type} : DataW H → Nat
  | .lit (.string bytes) => bytes.length + 1
  | .lit _ => 1
  | .nil => 1
  | .ptr d => uptoBulk d + 1
  | .slice elems spare => uptoBulkAll elems + uptoBulkAll spare + 1
  | .agg parts => uptoBulkAll parts + 1
  | .iface _ d => uptoBulk d + 1
  | .map entries => uptoBulkEntries entries + 1
  | .held _ => 1
def uptoBulkAll {H : Type} : List (DataW H) → Nat
  | [] => 0
  | d :: r => uptoBulk d + uptoBulkAll r
def uptoBulkEntries {H : Type} : List (Lit × DataW H) → Nat
  | [] => 0
  | x :: r => uptoBulkEntry x + uptoBulkEntries r
def uptoBulkEntry {H : Type} : Lit × DataW H → Nat
  | (.string bytes, d) => bytes.length + uptoBulk d + 1
  | (_, d) => uptoBulk d + 1
 end
def uptoSmall : (H : Type) → List (DataW H) → Bool := fun _ ds => decide (uptoBulkAll ds ≤ 1048576)
def OpenSpec.upto (s : _root_.Go.ChangeSpec) : _root_.Go.OpenSpec := { _root_.Go.OpenSpec.ofChange s with cond := some uptoSmall }

/-- 'groatlaw03.PlantApart', WHERE WHAT IT READS IS OF BULK AT MOST 1048576: true; the input reads as it did. -/
def plantApartUptoRow : OpenClaim := { program := "ytpnijopbbbgffaa", sum := "1e08d36b796d840af2e92198a624f8c15fa2d7f28a919b311087eb9c24e3a169", func := "groat/groatlaw03.PlantApart", spec := "plantApart", unfollowed := true, recurses := true, apart := false, narrowed := true }
def PlantApartUptoSaid : Prop := plantApartUptoRow.holds Try.pinned (OpenSpec.upto plantApartSpec)

/-- 'groatlaw03.PlantLast', WHERE WHAT IT READS IS OF BULK AT MOST 1048576: true; the input reads as it did. -/
def plantLastUptoRow : OpenClaim := { program := "ytpnijopbbbgffaa", sum := "1e08d36b796d840af2e92198a624f8c15fa2d7f28a919b311087eb9c24e3a169", func := "groat/groatlaw03.PlantLast", spec := "plantLast", unfollowed := true, recurses := true, apart := false, narrowed := true }
def PlantLastUptoSaid : Prop := plantLastUptoRow.holds Try.pinned (OpenSpec.upto plantLastSpec)

/-- 'groatlaw03.PlantMakes', WHERE WHAT IT READS IS OF BULK AT MOST 1048576: true; the input reads as it did. -/
def plantMakesUptoRow : OpenClaim := { program := "ytpnijopbbbgffaa", sum := "1e08d36b796d840af2e92198a624f8c15fa2d7f28a919b311087eb9c24e3a169", func := "groat/groatlaw03.PlantMakes", spec := "plantMakes", unfollowed := true, recurses := true, apart := false, narrowed := true }
def PlantMakesUptoSaid : Prop := plantMakesUptoRow.holds Try.pinned (OpenSpec.upto plantMakesSpec)

/-- 'groatlaw03.PlantKeeps', WHERE WHAT IT READS IS OF BULK AT MOST 1048576: true; the input reads as it did. -/
def plantKeepsUptoRow : OpenClaim := { program := "ytpnijopbbbgffaa", sum := "1e08d36b796d840af2e92198a624f8c15fa2d7f28a919b311087eb9c24e3a169", func := "groat/groatlaw03.PlantKeeps", spec := "plantKeeps", inPlace := ["maps.clone"], unfollowed := true, recurses := true, apart := false, narrowed := true }
def PlantKeepsUptoSaid : Prop := plantKeepsUptoRow.holds Try.pinned (OpenSpec.upto plantKeepsSpec)

/-- 'groatlaw03.PlantOff', WHERE WHAT IT READS IS OF BULK AT MOST 1048576: true; the input reads as it did. -/
def plantOffUptoRow : OpenClaim := { program := "ytpnijopbbbgffaa", sum := "1e08d36b796d840af2e92198a624f8c15fa2d7f28a919b311087eb9c24e3a169", func := "groat/groatlaw03.PlantOff", spec := "plantOff", inPlace := ["maps.clone"], unfollowed := true, recurses := true, apart := false, narrowed := true }
def PlantOffUptoSaid : Prop := plantOffUptoRow.holds Try.pinned (OpenSpec.upto plantOffSpec)

/-- 'groatlaw03.PlantHalves', WHERE WHAT IT READS IS OF BULK AT MOST 1048576: true; the input reads as it did. -/
def plantHalvesUptoRow : OpenClaim := { program := "ytpnijopbbbgffaa", sum := "1e08d36b796d840af2e92198a624f8c15fa2d7f28a919b311087eb9c24e3a169", func := "groat/groatlaw03.PlantHalves", spec := "plantHalves", inPlace := ["maps.clone"], unfollowed := true, recurses := true, apart := false, narrowed := true }
def PlantHalvesUptoSaid : Prop := plantHalvesUptoRow.holds Try.pinned (OpenSpec.upto plantHalvesSpec)

/-- 'groatlaw03.PlantPlays', WHERE WHAT IT READS IS OF BULK AT MOST 1048576: true; the input reads as it did. -/
def plantPlaysUptoRow : OpenClaim := { program := "ytpnijopbbbgffaa", sum := "1e08d36b796d840af2e92198a624f8c15fa2d7f28a919b311087eb9c24e3a169", func := "groat/groatlaw03.PlantPlays", spec := "plantPlays", inPlace := ["maps.clone"], unfollowed := true, recurses := true, apart := false, narrowed := true }
def PlantPlaysUptoSaid : Prop := plantPlaysUptoRow.holds Try.pinned (OpenSpec.upto plantPlaysSpec)

end Rows
end Go.Proofs.Ytpnijopbbbgffaa
