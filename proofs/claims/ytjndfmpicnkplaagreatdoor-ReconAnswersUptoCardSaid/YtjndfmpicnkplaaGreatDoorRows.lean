/-
  NARROWER THAN 'FOR EVERY INPUT', by the rows' own cells (each row's printed sentence says how): ReconAsks: laid · ReconAnswers: laid.
  DERIVED. THE GIVEN ROWS OF THIS SEAT. 2 by the template 'for every input the law returns true; each argument reads behind the call as it read before'; 0 by the template 'total and deterministic' (their statements: YtjndfmpicnkplaaGreatDoorTotals.lean).
  GIVEN WITH THE SEED: the statements are not yours to turn. If you find one false, say at which input.
  Laid BY PROGRAM, IN A SANDBOX (cutbox-rows.mjs): the forced cells as the released guide's own fill.sh prints them over the translation 5050147b2ef321cf… (all of the seat's roots in one cut). By AI agents, Wed Nov 11 2026. No macro, syntax, notation, axiom, sorry.
-/
import Derived.Test.YtjndfmpicnkplaaGreatDoorChecked
import GoSem.Claim
import GoSem.ClaimJoined
import GoSem.ClaimMapViews
import Derived.JoinedTies
import Derived.KernelRfl
namespace Go.Proofs.YtjndfmpicnkplaaGreatDoor
/- THE CELL 'sum', in the pinned program and in every row, IS THE sha256 OF THE DUMP (.gsa) THAT YtjndfmpicnkplaaGreatDoorProg.lean LOADS. Nothing in Lean hashes anything: it is a label: what it is worth is what the hold of that sum in a sandbox is worth. -/
noncomputable def Tryz.pinned : Pinned := { name := "ytjndfmpicnkplaagreatdoor", sum := "5050147b2ef321cf3d15165a1a498b341a28e1c397a2eac8e0ca938ee00c07ae", checked := Tryz.checked }
namespace Rows
def none {H : Type} : Left H := { results := [], args := [] }

/- WHAT THE LISTED PACKAGE-LEVEL VARIABLES READ AS WHEN THE CALL BEGINS. Each datum BY PROGRAM (the guide's laid-datum.mjs) off the statement by which the dump's own 'gosem.cut.vars' lays the variable. In a bare row this is a premise. The card (YtjndfmpicnkplaaGreatDoorCards.lean) ties it to the program's text. -/
def laid_errors_errorType {H : Type} : DataW H := .iface "internal/reflectlite.rtype" (.agg [.ptr (.lit (.string [101, 114, 114, 111, 114]))])
def laid_groat_message_fields {H : Type} : DataW H := .agg [.agg [.lit (.int .i64 2), .lit (.int .i64 2), .lit (.int .i64 19)], .agg [.lit (.int .i64 3), .lit (.int .i64 1), .lit (.int .i64 6)], .agg [.lit (.int .i64 4), .lit (.int .i64 1), .lit (.int .i64 12)], .agg [.lit (.int .i64 7), .lit (.int .i64 1), .lit (.int .i64 10)], .agg [.lit (.int .i64 11), .lit (.int .i64 1), .lit (.int .i64 6)], .agg [.lit (.int .i64 32), .lit (.int .i64 2), .lit (.int .i64 11)], .agg [.lit (.int .i64 38), .lit (.int .i64 3), .lit (.int .i64 6)], .agg [.lit (.int .i64 39), .lit (.int .i64 3), .lit (.int .i64 2)], .agg [.lit (.int .i64 49), .lit (.int .i64 1), .lit (.int .i64 3)], .agg [.lit (.int .i64 64), .lit (.int .i64 4), .lit (.int .i64 8)], .agg [.lit (.int .i64 70), .lit (.int .i64 1), .lit (.int .i64 3)], .agg [.lit (.int .i64 74), .lit (.int .i64 1), .lit (.int .i64 10)], .agg [.lit (.int .i64 76), .lit (.int .i64 1), .lit (.int .i64 10)], .agg [.lit (.int .i64 86), .lit (.int .i64 1), .lit (.int .i64 16)], .agg [.lit (.int .i64 88), .lit (.int .i64 1), .lit (.int .i64 16)], .agg [.lit (.int .i64 90), .lit (.int .i64 1), .lit (.int .i64 20)], .agg [.lit (.int .i64 97), .lit (.int .i64 5), .lit (.int .i64 16)]]
def laid_groat_message_types {H : Type} : DataW H := .agg [.lit (.int .i64 100), .lit (.int .i64 101), .lit (.int .i64 110), .lit (.int .i64 200), .lit (.int .i64 201), .lit (.int .i64 210), .lit (.int .i64 220), .lit (.int .i64 221), .lit (.int .i64 230), .lit (.int .i64 420), .lit (.int .i64 421), .lit (.int .i64 430), .lit (.int .i64 500), .lit (.int .i64 510), .lit (.int .i64 800), .lit (.int .i64 810)]
def laid_groat_message_dialects {H : Type} : DataW H := .agg [.agg [.lit (.int .i64 0), .lit (.int .u8 0), .lit (.int .i64 0)], .agg [.lit (.int .i64 1), .lit (.int .u8 48), .lit (.int .i64 0)], .agg [.lit (.int .i64 2), .lit (.int .u8 49), .lit (.int .i64 0)], .agg [.lit (.int .i64 3), .lit (.int .u8 57), .lit (.int .i64 2)]]

/-- 'groatlaw20.ReconAsks': WHATEVER THE INPUT: true; the input reads as it did. -/
def reconAsksSpec : ChangeSpec := { name := "reconAsks", fn := fun _ => fun
  | [d] => { results := [.lit (.bool true)], args := [d] }
  | _ => none }
def reconAsksRow : OpenClaim := { program := "ytjndfmpicnkplaagreatdoor", sum := "5050147b2ef321cf3d15165a1a498b341a28e1c397a2eac8e0ca938ee00c07ae", func := "groat/groatlaw20.ReconAsks", spec := "reconAsks", inPlace := ["slices.overlaps[groat/api.Field]", "internal/abi.NoEscape", "internal/bytealg.MakeNoZero", "internal/bytealg.IndexByteString", "internal/reflectlite.TypeOf", "internal/reflectlite.ValueOf", "(internal/reflectlite.Value).Type", "(internal/reflectlite.Value).IsNil", "(internal/reflectlite.Value).Elem", "(internal/reflectlite.Value).Set"], unfollowed := true, recurses := true, named := ["groat/message.types", "groat/message.dialects", "groat/message.fields", "errors.errorType"], apart := false, laid := [("errors.errorType", laid_errors_errorType), ("groat/message.fields", laid_groat_message_fields), ("groat/message.types", laid_groat_message_types), ("groat/message.dialects", laid_groat_message_dialects)] }
def ReconAsksSaid : Prop := reconAsksRow.holds Tryz.pinned (OpenSpec.ofChange reconAsksSpec)

/-- ITS FALSE NEIGHBOUR: 'it returns false'. Refute it at one input. -/
def reconAsksWrong : ChangeSpec := { name := "reconAsks", fn := fun _ => fun
  | [d] => { results := [.lit (.bool false)], args := [d] }
  | _ => none }
def ReconAsksWrongFalsely : Prop := reconAsksRow.holds Tryz.pinned (OpenSpec.ofChange reconAsksWrong)

/-- 'groatlaw20.ReconAnswers': WHATEVER THE INPUT: true; the input reads as it did. -/
def reconAnswersSpec : ChangeSpec := { name := "reconAnswers", fn := fun _ => fun
  | [d1, d2, d3] => { results := [.lit (.bool true)], args := [d1, d2, d3] }
  | _ => none }
def reconAnswersRow : OpenClaim := { program := "ytjndfmpicnkplaagreatdoor", sum := "5050147b2ef321cf3d15165a1a498b341a28e1c397a2eac8e0ca938ee00c07ae", func := "groat/groatlaw20.ReconAnswers", spec := "reconAnswers", inPlace := ["slices.overlaps[groat/api.Field]", "internal/abi.NoEscape", "internal/bytealg.MakeNoZero", "internal/bytealg.IndexByteString", "internal/reflectlite.TypeOf", "internal/reflectlite.ValueOf", "(internal/reflectlite.Value).Type", "(internal/reflectlite.Value).IsNil", "(internal/reflectlite.Value).Elem", "(internal/reflectlite.Value).Set"], unfollowed := true, recurses := true, named := ["groat/message.types", "groat/message.dialects", "groat/message.fields", "errors.errorType"], apart := false, laid := [("errors.errorType", laid_errors_errorType), ("groat/message.fields", laid_groat_message_fields), ("groat/message.types", laid_groat_message_types), ("groat/message.dialects", laid_groat_message_dialects)] }
def ReconAnswersSaid : Prop := reconAnswersRow.holds Tryz.pinned (OpenSpec.ofChange reconAnswersSpec)

/-- ITS FALSE NEIGHBOUR: 'it returns false'. Refute it at one input. -/
def reconAnswersWrong : ChangeSpec := { name := "reconAnswers", fn := fun _ => fun
  | [d1, d2, d3] => { results := [.lit (.bool false)], args := [d1, d2, d3] }
  | _ => none }
def ReconAnswersWrongFalsely : Prop := reconAnswersRow.holds Tryz.pinned (OpenSpec.ofChange reconAnswersWrong)

/- THE SECOND FORM. 'bulk': how many values and letters a reading holds, each counted each time it is reached (what is shared counts as often as it is met; a slice's spare places count too). A statement '..UptoSaid' is the law's where the arguments, and the package variables that the reading takes, are together of bulk at most 1048576: NARROWER than '..Said'. Prove '..Said' where nothing that the law and all that it calls make is longer than what came in: it says more and counts as full. Else prove '..UptoSaid'. A law counts once. -/
mutual
def uptoBulk {H : Type} : DataW H → Nat
  | .lit (.string bytes) => bytes.length + 1
  | .lit _ => 1
  | .nil => 1
  | .ptr d => uptoBulk d + 1
  | .slice elems spare => uptoBulkAll elems + uptoBulkAll spare + 1
  | .agg parts => uptoBulkAll parts + 1
  | .iface _ d => uptoBulk d + 1
  | .map entries => uptoBulkEntries entries + 1
  | .held _ => 1
def uptoBulkAll {H : Type} : List (DataW H) → Nat
  | [] => 0
  | d :: r => uptoBulk d + uptoBulkAll r
def uptoBulkEntries {H : Type} : List (Lit × DataW H) → Nat
  | [] => 0
  | x :: r => uptoBulkEntry x + uptoBulkEntries r
def uptoBulkEntry {H : Type} : Lit × DataW H → Nat
  | (.string bytes, d) => bytes.length + uptoBulk d + 1
  | (_, d) => uptoBulk d + 1
 end
def uptoSmall : (H : Type) → List (DataW H) → Bool := fun _ ds => decide (uptoBulkAll ds ≤ 1048576)
def OpenSpec.upto (s : _root_.Go.ChangeSpec) : _root_.Go.OpenSpec := { _root_.Go.OpenSpec.ofChange s with cond := some uptoSmall }

/-- 'groatlaw20.ReconAsks', WHERE WHAT IT READS IS OF BULK AT MOST 1048576: true; the input reads as it did. -/
def reconAsksUptoRow : OpenClaim := { program := "ytjndfmpicnkplaagreatdoor", sum := "5050147b2ef321cf3d15165a1a498b341a28e1c397a2eac8e0ca938ee00c07ae", func := "groat/groatlaw20.ReconAsks", spec := "reconAsks", inPlace := ["slices.overlaps[groat/api.Field]", "internal/abi.NoEscape", "internal/bytealg.MakeNoZero", "internal/bytealg.IndexByteString", "internal/reflectlite.TypeOf", "internal/reflectlite.ValueOf", "(internal/reflectlite.Value).Type", "(internal/reflectlite.Value).IsNil", "(internal/reflectlite.Value).Elem", "(internal/reflectlite.Value).Set"], unfollowed := true, recurses := true, named := ["groat/message.types", "groat/message.dialects", "groat/message.fields", "errors.errorType"], apart := false, laid := [("errors.errorType", laid_errors_errorType), ("groat/message.fields", laid_groat_message_fields), ("groat/message.types", laid_groat_message_types), ("groat/message.dialects", laid_groat_message_dialects)], narrowed := true }
def ReconAsksUptoSaid : Prop := reconAsksUptoRow.holds Tryz.pinned (OpenSpec.upto reconAsksSpec)

/-- 'groatlaw20.ReconAnswers', WHERE WHAT IT READS IS OF BULK AT MOST 1048576: true; the input reads as it did. -/
def reconAnswersUptoRow : OpenClaim := { program := "ytjndfmpicnkplaagreatdoor", sum := "5050147b2ef321cf3d15165a1a498b341a28e1c397a2eac8e0ca938ee00c07ae", func := "groat/groatlaw20.ReconAnswers", spec := "reconAnswers", inPlace := ["slices.overlaps[groat/api.Field]", "internal/abi.NoEscape", "internal/bytealg.MakeNoZero", "internal/bytealg.IndexByteString", "internal/reflectlite.TypeOf", "internal/reflectlite.ValueOf", "(internal/reflectlite.Value).Type", "(internal/reflectlite.Value).IsNil", "(internal/reflectlite.Value).Elem", "(internal/reflectlite.Value).Set"], unfollowed := true, recurses := true, named := ["groat/message.types", "groat/message.dialects", "groat/message.fields", "errors.errorType"], apart := false, laid := [("errors.errorType", laid_errors_errorType), ("groat/message.fields", laid_groat_message_fields), ("groat/message.types", laid_groat_message_types), ("groat/message.dialects", laid_groat_message_dialects)], narrowed := true }
def ReconAnswersUptoSaid : Prop := reconAnswersUptoRow.holds Tryz.pinned (OpenSpec.upto reconAnswersSpec)

end Rows
end Go.Proofs.YtjndfmpicnkplaaGreatDoor
