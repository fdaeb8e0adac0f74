/-
  NARROWER THAN 'FOR EVERY INPUT', by the rows' own cells (each row's printed sentence says how): MessageOthers: laid · MessageTurns: laid · MessageShort: laid · MessageUnlike: laid · MessageApart: laid · MessageWrites: laid · MessageReads: laid · MessageBack: laid · MessageMaps: laid · MessageForms: laid.
  DERIVED. THE GIVEN ROWS OF THIS SEAT. 10 by the template 'for every input the law returns true; each argument reads behind the call as it read before'; 0 by the template 'total and deterministic' (their statements: YtommklkihjmgcaaGreatDoorTotals.lean).
  GIVEN WITH THE SEED: the statements are not yours to turn. If you find one false, say at which input.
  Laid BY PROGRAM, IN A SANDBOX (cutbox-rows.mjs): the forced cells as the released guide's own fill.sh prints them over the translation 963adc80d21d685d… (all of the seat's roots in one cut). By AI agents, Wed Nov 11 2026. No macro, syntax, notation, axiom, sorry.
-/
import Derived.Test.YtommklkihjmgcaaGreatDoorChecked
import GoSem.Claim
import GoSem.ClaimJoined
import GoSem.ClaimMapViews
import Derived.JoinedTies
import Derived.KernelRfl
namespace Go.Proofs.YtommklkihjmgcaaGreatDoor
/- THE CELL 'sum', in the pinned program and in every row, IS THE sha256 OF THE DUMP (.gsa) THAT YtommklkihjmgcaaGreatDoorProg.lean LOADS. Nothing in Lean hashes anything: it is a label: what it is worth is what the hold of that sum in a sandbox is worth. -/
noncomputable def Tryz.pinned : Pinned := { name := "ytommklkihjmgcaagreatdoor", sum := "963adc80d21d685d9eba5fbaa32adc3f0c194bd540ad5247724dd5bb1153be91", checked := Tryz.checked }
namespace Rows
def none {H : Type} : Left H := { results := [], args := [] }

/- WHAT THE LISTED PACKAGE-LEVEL VARIABLES READ AS WHEN THE CALL BEGINS. Each datum BY PROGRAM (the guide's laid-datum.mjs) off the statement by which the dump's own 'gosem.cut.vars' lays the variable. In a bare row this is a premise. The card (YtommklkihjmgcaaGreatDoorCards.lean) ties it to the program's text. -/
def laid_math_bits_deBruijn32tab {H : Type} : DataW H := .agg [.lit (.int .u8 0), .lit (.int .u8 1), .lit (.int .u8 28), .lit (.int .u8 2), .lit (.int .u8 29), .lit (.int .u8 14), .lit (.int .u8 24), .lit (.int .u8 3), .lit (.int .u8 30), .lit (.int .u8 22), .lit (.int .u8 20), .lit (.int .u8 15), .lit (.int .u8 25), .lit (.int .u8 17), .lit (.int .u8 4), .lit (.int .u8 8), .lit (.int .u8 31), .lit (.int .u8 27), .lit (.int .u8 13), .lit (.int .u8 23), .lit (.int .u8 21), .lit (.int .u8 19), .lit (.int .u8 16), .lit (.int .u8 7), .lit (.int .u8 26), .lit (.int .u8 12), .lit (.int .u8 18), .lit (.int .u8 6), .lit (.int .u8 11), .lit (.int .u8 5), .lit (.int .u8 10), .lit (.int .u8 9)]
def laid_math_bits_deBruijn64tab {H : Type} : DataW H := .agg [.lit (.int .u8 0), .lit (.int .u8 1), .lit (.int .u8 56), .lit (.int .u8 2), .lit (.int .u8 57), .lit (.int .u8 49), .lit (.int .u8 28), .lit (.int .u8 3), .lit (.int .u8 61), .lit (.int .u8 58), .lit (.int .u8 42), .lit (.int .u8 50), .lit (.int .u8 38), .lit (.int .u8 29), .lit (.int .u8 17), .lit (.int .u8 4), .lit (.int .u8 62), .lit (.int .u8 47), .lit (.int .u8 59), .lit (.int .u8 36), .lit (.int .u8 45), .lit (.int .u8 43), .lit (.int .u8 51), .lit (.int .u8 22), .lit (.int .u8 53), .lit (.int .u8 39), .lit (.int .u8 33), .lit (.int .u8 30), .lit (.int .u8 24), .lit (.int .u8 18), .lit (.int .u8 12), .lit (.int .u8 5), .lit (.int .u8 63), .lit (.int .u8 55), .lit (.int .u8 48), .lit (.int .u8 27), .lit (.int .u8 60), .lit (.int .u8 41), .lit (.int .u8 37), .lit (.int .u8 16), .lit (.int .u8 46), .lit (.int .u8 35), .lit (.int .u8 44), .lit (.int .u8 21), .lit (.int .u8 52), .lit (.int .u8 32), .lit (.int .u8 23), .lit (.int .u8 11), .lit (.int .u8 54), .lit (.int .u8 26), .lit (.int .u8 40), .lit (.int .u8 15), .lit (.int .u8 34), .lit (.int .u8 20), .lit (.int .u8 31), .lit (.int .u8 10), .lit (.int .u8 25), .lit (.int .u8 14), .lit (.int .u8 19), .lit (.int .u8 9), .lit (.int .u8 13), .lit (.int .u8 8), .lit (.int .u8 7), .lit (.int .u8 6)]
def laid_internal_strconv_uint64pow10 {H : Type} : DataW H := .agg [.lit (.int .u64 1), .lit (.int .u64 10), .lit (.int .u64 100), .lit (.int .u64 1000), .lit (.int .u64 10000), .lit (.int .u64 100000), .lit (.int .u64 1000000), .lit (.int .u64 10000000), .lit (.int .u64 100000000), .lit (.int .u64 1000000000), .lit (.int .u64 10000000000), .lit (.int .u64 100000000000), .lit (.int .u64 1000000000000), .lit (.int .u64 10000000000000), .lit (.int .u64 100000000000000), .lit (.int .u64 1000000000000000), .lit (.int .u64 10000000000000000), .lit (.int .u64 100000000000000000), .lit (.int .u64 1000000000000000000), .lit (.int .u64 10000000000000000000)]
def laid_errors_errorType {H : Type} : DataW H := .iface "internal/reflectlite.rtype" (.agg [.ptr (.lit (.string [101, 114, 114, 111, 114]))])
def laid_groat_message_fields {H : Type} : DataW H := .agg [.agg [.lit (.int .i64 2), .lit (.int .i64 2), .lit (.int .i64 19)], .agg [.lit (.int .i64 3), .lit (.int .i64 1), .lit (.int .i64 6)], .agg [.lit (.int .i64 4), .lit (.int .i64 1), .lit (.int .i64 12)], .agg [.lit (.int .i64 7), .lit (.int .i64 1), .lit (.int .i64 10)], .agg [.lit (.int .i64 11), .lit (.int .i64 1), .lit (.int .i64 6)], .agg [.lit (.int .i64 32), .lit (.int .i64 2), .lit (.int .i64 11)], .agg [.lit (.int .i64 38), .lit (.int .i64 3), .lit (.int .i64 6)], .agg [.lit (.int .i64 39), .lit (.int .i64 3), .lit (.int .i64 2)], .agg [.lit (.int .i64 49), .lit (.int .i64 1), .lit (.int .i64 3)], .agg [.lit (.int .i64 64), .lit (.int .i64 4), .lit (.int .i64 8)], .agg [.lit (.int .i64 70), .lit (.int .i64 1), .lit (.int .i64 3)], .agg [.lit (.int .i64 74), .lit (.int .i64 1), .lit (.int .i64 10)], .agg [.lit (.int .i64 76), .lit (.int .i64 1), .lit (.int .i64 10)], .agg [.lit (.int .i64 86), .lit (.int .i64 1), .lit (.int .i64 16)], .agg [.lit (.int .i64 88), .lit (.int .i64 1), .lit (.int .i64 16)], .agg [.lit (.int .i64 90), .lit (.int .i64 1), .lit (.int .i64 20)], .agg [.lit (.int .i64 97), .lit (.int .i64 5), .lit (.int .i64 16)]]
def laid_groat_message_types {H : Type} : DataW H := .agg [.lit (.int .i64 100), .lit (.int .i64 101), .lit (.int .i64 110), .lit (.int .i64 200), .lit (.int .i64 201), .lit (.int .i64 210), .lit (.int .i64 220), .lit (.int .i64 221), .lit (.int .i64 230), .lit (.int .i64 420), .lit (.int .i64 421), .lit (.int .i64 430), .lit (.int .i64 500), .lit (.int .i64 510), .lit (.int .i64 800), .lit (.int .i64 810)]
def laid_groat_message_dialects {H : Type} : DataW H := .agg [.agg [.lit (.int .i64 0), .lit (.int .u8 0), .lit (.int .i64 0)], .agg [.lit (.int .i64 1), .lit (.int .u8 48), .lit (.int .i64 0)], .agg [.lit (.int .i64 2), .lit (.int .u8 49), .lit (.int .i64 0)], .agg [.lit (.int .i64 3), .lit (.int .u8 57), .lit (.int .i64 2)]]

/-- 'groatlaw05.MessageOthers': WHATEVER THE INPUT: true; the input reads as it did. -/
def messageOthersSpec : ChangeSpec := { name := "messageOthers", fn := fun _ => fun
  | [d1, d2, d3] => { results := [.lit (.bool true)], args := [d1, d2, d3] }
  | _ => none }
def messageOthersRow : OpenClaim := { program := "ytommklkihjmgcaagreatdoor", sum := "963adc80d21d685d9eba5fbaa32adc3f0c194bd540ad5247724dd5bb1153be91", func := "groat/groatlaw05.MessageOthers", spec := "messageOthers", inPlace := ["internal/bytealg.IndexByteString", "internal/abi.NoEscape", "internal/bytealg.MakeNoZero", "internal/reflectlite.TypeOf", "internal/reflectlite.ValueOf", "(internal/reflectlite.Value).Type", "(internal/reflectlite.Value).IsNil", "(internal/reflectlite.Value).Elem", "(internal/reflectlite.Value).Set", "slices.overlaps[groat/api.Field]"], unfollowed := true, recurses := true, named := ["groat/message.dialects", "groat/message.types", "groat/message.fields", "internal/strconv.uint64pow10", "math/bits.deBruijn32tab", "math/bits.deBruijn64tab", "errors.errorType"], apart := false, laid := [("math/bits.deBruijn32tab", laid_math_bits_deBruijn32tab), ("math/bits.deBruijn64tab", laid_math_bits_deBruijn64tab), ("internal/strconv.uint64pow10", laid_internal_strconv_uint64pow10), ("errors.errorType", laid_errors_errorType), ("groat/message.fields", laid_groat_message_fields), ("groat/message.types", laid_groat_message_types), ("groat/message.dialects", laid_groat_message_dialects)] }
def MessageOthersSaid : Prop := messageOthersRow.holds Tryz.pinned (OpenSpec.ofChange messageOthersSpec)

/-- ITS FALSE NEIGHBOUR: 'it returns false'. Refute it at one input. -/
def messageOthersWrong : ChangeSpec := { name := "messageOthers", fn := fun _ => fun
  | [d1, d2, d3] => { results := [.lit (.bool false)], args := [d1, d2, d3] }
  | _ => none }
def MessageOthersWrongFalsely : Prop := messageOthersRow.holds Tryz.pinned (OpenSpec.ofChange messageOthersWrong)

/-- 'groatlaw05.MessageTurns': WHATEVER THE INPUT: true; the input reads as it did. -/
def messageTurnsSpec : ChangeSpec := { name := "messageTurns", fn := fun _ => fun
  | [d1, d2, d3] => { results := [.lit (.bool true)], args := [d1, d2, d3] }
  | _ => none }
def messageTurnsRow : OpenClaim := { program := "ytommklkihjmgcaagreatdoor", sum := "963adc80d21d685d9eba5fbaa32adc3f0c194bd540ad5247724dd5bb1153be91", func := "groat/groatlaw05.MessageTurns", spec := "messageTurns", inPlace := ["internal/bytealg.IndexByteString", "internal/abi.NoEscape", "internal/bytealg.MakeNoZero", "internal/reflectlite.TypeOf", "internal/reflectlite.ValueOf", "(internal/reflectlite.Value).Type", "(internal/reflectlite.Value).IsNil", "(internal/reflectlite.Value).Elem", "(internal/reflectlite.Value).Set", "slices.overlaps[groat/api.Field]"], unfollowed := true, recurses := true, named := ["groat/message.dialects", "groat/message.types", "groat/message.fields", "internal/strconv.uint64pow10", "math/bits.deBruijn32tab", "math/bits.deBruijn64tab", "errors.errorType"], apart := false, laid := [("math/bits.deBruijn32tab", laid_math_bits_deBruijn32tab), ("math/bits.deBruijn64tab", laid_math_bits_deBruijn64tab), ("internal/strconv.uint64pow10", laid_internal_strconv_uint64pow10), ("errors.errorType", laid_errors_errorType), ("groat/message.fields", laid_groat_message_fields), ("groat/message.types", laid_groat_message_types), ("groat/message.dialects", laid_groat_message_dialects)] }
def MessageTurnsSaid : Prop := messageTurnsRow.holds Tryz.pinned (OpenSpec.ofChange messageTurnsSpec)

/-- ITS FALSE NEIGHBOUR: 'it returns false'. Refute it at one input. -/
def messageTurnsWrong : ChangeSpec := { name := "messageTurns", fn := fun _ => fun
  | [d1, d2, d3] => { results := [.lit (.bool false)], args := [d1, d2, d3] }
  | _ => none }
def MessageTurnsWrongFalsely : Prop := messageTurnsRow.holds Tryz.pinned (OpenSpec.ofChange messageTurnsWrong)

/-- 'groatlaw05.MessageShort': WHATEVER THE INPUT: true; the input reads as it did. -/
def messageShortSpec : ChangeSpec := { name := "messageShort", fn := fun _ => fun
  | [d1, d2, d3] => { results := [.lit (.bool true)], args := [d1, d2, d3] }
  | _ => none }
def messageShortRow : OpenClaim := { program := "ytommklkihjmgcaagreatdoor", sum := "963adc80d21d685d9eba5fbaa32adc3f0c194bd540ad5247724dd5bb1153be91", func := "groat/groatlaw05.MessageShort", spec := "messageShort", inPlace := ["internal/bytealg.IndexByteString", "internal/abi.NoEscape", "internal/bytealg.MakeNoZero", "internal/reflectlite.TypeOf", "internal/reflectlite.ValueOf", "(internal/reflectlite.Value).Type", "(internal/reflectlite.Value).IsNil", "(internal/reflectlite.Value).Elem", "(internal/reflectlite.Value).Set"], unfollowed := true, recurses := true, named := ["groat/message.dialects", "groat/message.types", "groat/message.fields", "internal/strconv.uint64pow10", "math/bits.deBruijn32tab", "math/bits.deBruijn64tab", "errors.errorType"], apart := false, laid := [("math/bits.deBruijn32tab", laid_math_bits_deBruijn32tab), ("math/bits.deBruijn64tab", laid_math_bits_deBruijn64tab), ("internal/strconv.uint64pow10", laid_internal_strconv_uint64pow10), ("errors.errorType", laid_errors_errorType), ("groat/message.fields", laid_groat_message_fields), ("groat/message.types", laid_groat_message_types), ("groat/message.dialects", laid_groat_message_dialects)] }
def MessageShortSaid : Prop := messageShortRow.holds Tryz.pinned (OpenSpec.ofChange messageShortSpec)

/-- ITS FALSE NEIGHBOUR: 'it returns false'. Refute it at one input. -/
def messageShortWrong : ChangeSpec := { name := "messageShort", fn := fun _ => fun
  | [d1, d2, d3] => { results := [.lit (.bool false)], args := [d1, d2, d3] }
  | _ => none }
def MessageShortWrongFalsely : Prop := messageShortRow.holds Tryz.pinned (OpenSpec.ofChange messageShortWrong)

/-- 'groatlaw05.MessageUnlike': WHATEVER THE INPUT: true; the input reads as it did. -/
def messageUnlikeSpec : ChangeSpec := { name := "messageUnlike", fn := fun _ => fun
  | [d1, d2, d3] => { results := [.lit (.bool true)], args := [d1, d2, d3] }
  | _ => none }
def messageUnlikeRow : OpenClaim := { program := "ytommklkihjmgcaagreatdoor", sum := "963adc80d21d685d9eba5fbaa32adc3f0c194bd540ad5247724dd5bb1153be91", func := "groat/groatlaw05.MessageUnlike", spec := "messageUnlike", inPlace := ["internal/bytealg.IndexByteString", "internal/abi.NoEscape", "internal/bytealg.MakeNoZero", "internal/reflectlite.TypeOf", "internal/reflectlite.ValueOf", "(internal/reflectlite.Value).Type", "(internal/reflectlite.Value).IsNil", "(internal/reflectlite.Value).Elem", "(internal/reflectlite.Value).Set"], unfollowed := true, recurses := true, named := ["groat/message.dialects", "groat/message.types", "groat/message.fields", "internal/strconv.uint64pow10", "math/bits.deBruijn32tab", "math/bits.deBruijn64tab", "errors.errorType"], apart := false, laid := [("math/bits.deBruijn32tab", laid_math_bits_deBruijn32tab), ("math/bits.deBruijn64tab", laid_math_bits_deBruijn64tab), ("internal/strconv.uint64pow10", laid_internal_strconv_uint64pow10), ("errors.errorType", laid_errors_errorType), ("groat/message.fields", laid_groat_message_fields), ("groat/message.types", laid_groat_message_types), ("groat/message.dialects", laid_groat_message_dialects)] }
def MessageUnlikeSaid : Prop := messageUnlikeRow.holds Tryz.pinned (OpenSpec.ofChange messageUnlikeSpec)

/-- ITS FALSE NEIGHBOUR: 'it returns false'. Refute it at one input. -/
def messageUnlikeWrong : ChangeSpec := { name := "messageUnlike", fn := fun _ => fun
  | [d1, d2, d3] => { results := [.lit (.bool false)], args := [d1, d2, d3] }
  | _ => none }
def MessageUnlikeWrongFalsely : Prop := messageUnlikeRow.holds Tryz.pinned (OpenSpec.ofChange messageUnlikeWrong)

/-- 'groatlaw05.MessageApart': WHATEVER THE INPUT: true; the input reads as it did. -/
def messageApartSpec : ChangeSpec := { name := "messageApart", fn := fun _ => fun
  | [d1, d2, d3] => { results := [.lit (.bool true)], args := [d1, d2, d3] }
  | _ => none }
def messageApartRow : OpenClaim := { program := "ytommklkihjmgcaagreatdoor", sum := "963adc80d21d685d9eba5fbaa32adc3f0c194bd540ad5247724dd5bb1153be91", func := "groat/groatlaw05.MessageApart", spec := "messageApart", inPlace := ["internal/bytealg.IndexByteString", "internal/abi.NoEscape", "internal/bytealg.MakeNoZero", "internal/reflectlite.TypeOf", "internal/reflectlite.ValueOf", "(internal/reflectlite.Value).Type", "(internal/reflectlite.Value).IsNil", "(internal/reflectlite.Value).Elem", "(internal/reflectlite.Value).Set"], unfollowed := true, recurses := true, named := ["groat/message.dialects", "groat/message.types", "groat/message.fields", "internal/strconv.uint64pow10", "math/bits.deBruijn32tab", "math/bits.deBruijn64tab", "errors.errorType"], apart := false, laid := [("math/bits.deBruijn32tab", laid_math_bits_deBruijn32tab), ("math/bits.deBruijn64tab", laid_math_bits_deBruijn64tab), ("internal/strconv.uint64pow10", laid_internal_strconv_uint64pow10), ("errors.errorType", laid_errors_errorType), ("groat/message.fields", laid_groat_message_fields), ("groat/message.types", laid_groat_message_types), ("groat/message.dialects", laid_groat_message_dialects)] }
def MessageApartSaid : Prop := messageApartRow.holds Tryz.pinned (OpenSpec.ofChange messageApartSpec)

/-- ITS FALSE NEIGHBOUR: 'it returns false'. Refute it at one input. -/
def messageApartWrong : ChangeSpec := { name := "messageApart", fn := fun _ => fun
  | [d1, d2, d3] => { results := [.lit (.bool false)], args := [d1, d2, d3] }
  | _ => none }
def MessageApartWrongFalsely : Prop := messageApartRow.holds Tryz.pinned (OpenSpec.ofChange messageApartWrong)

/-- 'groatlaw05.MessageWrites': WHATEVER THE INPUT: true; the input reads as it did. -/
def messageWritesSpec : ChangeSpec := { name := "messageWrites", fn := fun _ => fun
  | [d1, d2] => { results := [.lit (.bool true)], args := [d1, d2] }
  | _ => none }
def messageWritesRow : OpenClaim := { program := "ytommklkihjmgcaagreatdoor", sum := "963adc80d21d685d9eba5fbaa32adc3f0c194bd540ad5247724dd5bb1153be91", func := "groat/groatlaw05.MessageWrites", spec := "messageWrites", inPlace := ["internal/bytealg.IndexByteString", "internal/abi.NoEscape", "internal/bytealg.MakeNoZero", "internal/reflectlite.TypeOf", "internal/reflectlite.ValueOf", "(internal/reflectlite.Value).Type", "(internal/reflectlite.Value).IsNil", "(internal/reflectlite.Value).Elem", "(internal/reflectlite.Value).Set"], unfollowed := true, recurses := true, named := ["groat/message.dialects", "groat/message.types", "groat/message.fields", "internal/strconv.uint64pow10", "math/bits.deBruijn32tab", "math/bits.deBruijn64tab", "errors.errorType"], apart := false, laid := [("math/bits.deBruijn32tab", laid_math_bits_deBruijn32tab), ("math/bits.deBruijn64tab", laid_math_bits_deBruijn64tab), ("internal/strconv.uint64pow10", laid_internal_strconv_uint64pow10), ("errors.errorType", laid_errors_errorType), ("groat/message.fields", laid_groat_message_fields), ("groat/message.types", laid_groat_message_types), ("groat/message.dialects", laid_groat_message_dialects)] }
def MessageWritesSaid : Prop := messageWritesRow.holds Tryz.pinned (OpenSpec.ofChange messageWritesSpec)

/-- ITS FALSE NEIGHBOUR: 'it returns false'. Refute it at one input. -/
def messageWritesWrong : ChangeSpec := { name := "messageWrites", fn := fun _ => fun
  | [d1, d2] => { results := [.lit (.bool false)], args := [d1, d2] }
  | _ => none }
def MessageWritesWrongFalsely : Prop := messageWritesRow.holds Tryz.pinned (OpenSpec.ofChange messageWritesWrong)

/-- 'groatlaw05.MessageReads': WHATEVER THE INPUT: true; the input reads as it did. -/
def messageReadsSpec : ChangeSpec := { name := "messageReads", fn := fun _ => fun
  | [d1, d2] => { results := [.lit (.bool true)], args := [d1, d2] }
  | _ => none }
def messageReadsRow : OpenClaim := { program := "ytommklkihjmgcaagreatdoor", sum := "963adc80d21d685d9eba5fbaa32adc3f0c194bd540ad5247724dd5bb1153be91", func := "groat/groatlaw05.MessageReads", spec := "messageReads", inPlace := ["internal/bytealg.IndexByteString", "internal/abi.NoEscape", "internal/bytealg.MakeNoZero", "internal/reflectlite.TypeOf", "internal/reflectlite.ValueOf", "(internal/reflectlite.Value).Type", "(internal/reflectlite.Value).IsNil", "(internal/reflectlite.Value).Elem", "(internal/reflectlite.Value).Set"], unfollowed := true, recurses := true, named := ["groat/message.dialects", "groat/message.types", "groat/message.fields", "internal/strconv.uint64pow10", "math/bits.deBruijn32tab", "math/bits.deBruijn64tab", "errors.errorType"], apart := false, laid := [("math/bits.deBruijn32tab", laid_math_bits_deBruijn32tab), ("math/bits.deBruijn64tab", laid_math_bits_deBruijn64tab), ("internal/strconv.uint64pow10", laid_internal_strconv_uint64pow10), ("errors.errorType", laid_errors_errorType), ("groat/message.fields", laid_groat_message_fields), ("groat/message.types", laid_groat_message_types), ("groat/message.dialects", laid_groat_message_dialects)] }
def MessageReadsSaid : Prop := messageReadsRow.holds Tryz.pinned (OpenSpec.ofChange messageReadsSpec)

/-- ITS FALSE NEIGHBOUR: 'it returns false'. Refute it at one input. -/
def messageReadsWrong : ChangeSpec := { name := "messageReads", fn := fun _ => fun
  | [d1, d2] => { results := [.lit (.bool false)], args := [d1, d2] }
  | _ => none }
def MessageReadsWrongFalsely : Prop := messageReadsRow.holds Tryz.pinned (OpenSpec.ofChange messageReadsWrong)

/-- 'groatlaw05.MessageBack': WHATEVER THE INPUT: true; the input reads as it did. -/
def messageBackSpec : ChangeSpec := { name := "messageBack", fn := fun _ => fun
  | [d1, d2, d3] => { results := [.lit (.bool true)], args := [d1, d2, d3] }
  | _ => none }
def messageBackRow : OpenClaim := { program := "ytommklkihjmgcaagreatdoor", sum := "963adc80d21d685d9eba5fbaa32adc3f0c194bd540ad5247724dd5bb1153be91", func := "groat/groatlaw05.MessageBack", spec := "messageBack", inPlace := ["internal/bytealg.IndexByteString", "internal/abi.NoEscape", "internal/bytealg.MakeNoZero", "internal/reflectlite.TypeOf", "internal/reflectlite.ValueOf", "(internal/reflectlite.Value).Type", "(internal/reflectlite.Value).IsNil", "(internal/reflectlite.Value).Elem", "(internal/reflectlite.Value).Set"], unfollowed := true, recurses := true, named := ["groat/message.dialects", "groat/message.types", "groat/message.fields", "internal/strconv.uint64pow10", "math/bits.deBruijn32tab", "math/bits.deBruijn64tab", "errors.errorType"], apart := false, laid := [("math/bits.deBruijn32tab", laid_math_bits_deBruijn32tab), ("math/bits.deBruijn64tab", laid_math_bits_deBruijn64tab), ("internal/strconv.uint64pow10", laid_internal_strconv_uint64pow10), ("errors.errorType", laid_errors_errorType), ("groat/message.fields", laid_groat_message_fields), ("groat/message.types", laid_groat_message_types), ("groat/message.dialects", laid_groat_message_dialects)] }
def MessageBackSaid : Prop := messageBackRow.holds Tryz.pinned (OpenSpec.ofChange messageBackSpec)

/-- ITS FALSE NEIGHBOUR: 'it returns false'. Refute it at one input. -/
def messageBackWrong : ChangeSpec := { name := "messageBack", fn := fun _ => fun
  | [d1, d2, d3] => { results := [.lit (.bool false)], args := [d1, d2, d3] }
  | _ => none }
def MessageBackWrongFalsely : Prop := messageBackRow.holds Tryz.pinned (OpenSpec.ofChange messageBackWrong)

/-- 'groatlaw05.MessageMaps': WHATEVER THE INPUT: true; the input reads as it did. -/
def messageMapsSpec : ChangeSpec := { name := "messageMaps", fn := fun _ => fun
  | [d] => { results := [.lit (.bool true)], args := [d] }
  | _ => none }
def messageMapsRow : OpenClaim := { program := "ytommklkihjmgcaagreatdoor", sum := "963adc80d21d685d9eba5fbaa32adc3f0c194bd540ad5247724dd5bb1153be91", func := "groat/groatlaw05.MessageMaps", spec := "messageMaps", inPlace := ["internal/bytealg.IndexByteString", "internal/abi.NoEscape", "internal/bytealg.MakeNoZero", "internal/reflectlite.TypeOf", "internal/reflectlite.ValueOf", "(internal/reflectlite.Value).Type", "(internal/reflectlite.Value).IsNil", "(internal/reflectlite.Value).Elem", "(internal/reflectlite.Value).Set"], unfollowed := true, recurses := true, named := ["groat/message.dialects", "groat/message.types", "groat/message.fields", "internal/strconv.uint64pow10", "math/bits.deBruijn32tab", "math/bits.deBruijn64tab", "errors.errorType"], apart := false, laid := [("math/bits.deBruijn32tab", laid_math_bits_deBruijn32tab), ("math/bits.deBruijn64tab", laid_math_bits_deBruijn64tab), ("internal/strconv.uint64pow10", laid_internal_strconv_uint64pow10), ("errors.errorType", laid_errors_errorType), ("groat/message.fields", laid_groat_message_fields), ("groat/message.types", laid_groat_message_types), ("groat/message.dialects", laid_groat_message_dialects)] }
def MessageMapsSaid : Prop := messageMapsRow.holds Tryz.pinned (OpenSpec.ofChange messageMapsSpec)

/-- ITS FALSE NEIGHBOUR: 'it returns false'. Refute it at one input. -/
def messageMapsWrong : ChangeSpec := { name := "messageMaps", fn := fun _ => fun
  | [d] => { results := [.lit (.bool false)], args := [d] }
  | _ => none }
def MessageMapsWrongFalsely : Prop := messageMapsRow.holds Tryz.pinned (OpenSpec.ofChange messageMapsWrong)

/-- 'groatlaw05.MessageForms': WHATEVER THE INPUT: true; the input reads as it did. -/
def messageFormsSpec : ChangeSpec := { name := "messageForms", fn := fun _ => fun
  | [d1, d2] => { results := [.lit (.bool true)], args := [d1, d2] }
  | _ => none }
def messageFormsRow : OpenClaim := { program := "ytommklkihjmgcaagreatdoor", sum := "963adc80d21d685d9eba5fbaa32adc3f0c194bd540ad5247724dd5bb1153be91", func := "groat/groatlaw05.MessageForms", spec := "messageForms", inPlace := ["internal/bytealg.IndexByteString", "internal/abi.NoEscape", "internal/bytealg.MakeNoZero", "internal/reflectlite.TypeOf", "internal/reflectlite.ValueOf", "(internal/reflectlite.Value).Type", "(internal/reflectlite.Value).IsNil", "(internal/reflectlite.Value).Elem", "(internal/reflectlite.Value).Set"], unfollowed := true, recurses := true, named := ["groat/message.dialects", "groat/message.types", "groat/message.fields", "internal/strconv.uint64pow10", "math/bits.deBruijn32tab", "math/bits.deBruijn64tab", "errors.errorType"], apart := false, laid := [("math/bits.deBruijn32tab", laid_math_bits_deBruijn32tab), ("math/bits.deBruijn64tab", laid_math_bits_deBruijn64tab), ("internal/strconv.uint64pow10", laid_internal_strconv_uint64pow10), ("errors.errorType", laid_errors_errorType), ("groat/message.fields", laid_groat_message_fields), ("groat/message.types", laid_groat_message_types), ("groat/message.dialects", laid_groat_message_dialects)] }
def MessageFormsSaid : Prop := messageFormsRow.holds Tryz.pinned (OpenSpec.ofChange messageFormsSpec)

/-- ITS FALSE NEIGHBOUR: 'it returns false'. Refute it at one input. -/
def messageFormsWrong : ChangeSpec := { name := "messageForms", fn := fun _ => fun
  | [d1, d2] => { results := [.lit (.bool false)], args := [d1, d2] }
  | _ => none }
def MessageFormsWrongFalsely : Prop := messageFormsRow.holds Tryz.pinned (OpenSpec.ofChange messageFormsWrong)

/- THE SECOND FORM. 'bulk': how many values and letters a reading holds, each counted each time it is reached (what is shared counts as often as it is met; a slice's spare places count too). A statement '..UptoSaid' is the law's where the arguments, and the package variables that the reading takes, are together of bulk at most 1048576: NARROWER than '..Said'. Prove '..Said' where nothing that the law and all that it calls make is longer than what came in: it says more and counts as full. Else prove '..UptoSaid'. A law counts once. -/
mutual
def uptoBulk {H : Type} : DataW H → Nat
  | .lit (.string bytes) => bytes.length + 1
  | .lit _ => 1
  | .nil => 1
  | .ptr d => uptoBulk d + 1
  | .slice elems spare => uptoBulkAll elems + uptoBulkAll spare + 1
  | .agg parts => uptoBulkAll parts + 1
  | .iface _ d => uptoBulk d + 1
  | .map entries => uptoBulkEntries entries + 1
  | .held _ => 1
def uptoBulkAll {H : Type} : List (DataW H) → Nat
  | [] => 0
  | d :: r => uptoBulk d + uptoBulkAll r
def uptoBulkEntries {H : Type} : List (Lit × DataW H) → Nat
  | [] => 0
  | x :: r => uptoBulkEntry x + uptoBulkEntries r
def uptoBulkEntry {H : Type} : Lit × DataW H → Nat
  | (.string bytes, d) => bytes.length + uptoBulk d + 1
  | (_, d) => uptoBulk d + 1
 end
def uptoSmall : (H : Type) → List (DataW H) → Bool := fun _ ds => decide (uptoBulkAll ds ≤ 1048576)
def OpenSpec.upto (s : _root_.Go.ChangeSpec) : _root_.Go.OpenSpec := { _root_.Go.OpenSpec.ofChange s with cond := some uptoSmall }

/-- 'groatlaw05.MessageOthers', WHERE WHAT IT READS IS OF BULK AT MOST 1048576: true; the input reads as it did. -/
def messageOthersUptoRow : OpenClaim := { program := "ytommklkihjmgcaagreatdoor", sum := "963adc80d21d685d9eba5fbaa32adc3f0c194bd540ad5247724dd5bb1153be91", func := "groat/groatlaw05.MessageOthers", spec := "messageOthers", inPlace := ["internal/bytealg.IndexByteString", "internal/abi.NoEscape", "internal/bytealg.MakeNoZero", "internal/reflectlite.TypeOf", "internal/reflectlite.ValueOf", "(internal/reflectlite.Value).Type", "(internal/reflectlite.Value).IsNil", "(internal/reflectlite.Value).Elem", "(internal/reflectlite.Value).Set", "slices.overlaps[groat/api.Field]"], unfollowed := true, recurses := true, named := ["groat/message.dialects", "groat/message.types", "groat/message.fields", "internal/strconv.uint64pow10", "math/bits.deBruijn32tab", "math/bits.deBruijn64tab", "errors.errorType"], apart := false, laid := [("math/bits.deBruijn32tab", laid_math_bits_deBruijn32tab), ("math/bits.deBruijn64tab", laid_math_bits_deBruijn64tab), ("internal/strconv.uint64pow10", laid_internal_strconv_uint64pow10), ("errors.errorType", laid_errors_errorType), ("groat/message.fields", laid_groat_message_fields), ("groat/message.types", laid_groat_message_types), ("groat/message.dialects", laid_groat_message_dialects)], narrowed := true }
def MessageOthersUptoSaid : Prop := messageOthersUptoRow.holds Tryz.pinned (OpenSpec.upto messageOthersSpec)

/-- 'groatlaw05.MessageTurns', WHERE WHAT IT READS IS OF BULK AT MOST 1048576: true; the input reads as it did. -/
def messageTurnsUptoRow : OpenClaim := { program := "ytommklkihjmgcaagreatdoor", sum := "963adc80d21d685d9eba5fbaa32adc3f0c194bd540ad5247724dd5bb1153be91", func := "groat/groatlaw05.MessageTurns", spec := "messageTurns", inPlace := ["internal/bytealg.IndexByteString", "internal/abi.NoEscape", "internal/bytealg.MakeNoZero", "internal/reflectlite.TypeOf", "internal/reflectlite.ValueOf", "(internal/reflectlite.Value).Type", "(internal/reflectlite.Value).IsNil", "(internal/reflectlite.Value).Elem", "(internal/reflectlite.Value).Set", "slices.overlaps[groat/api.Field]"], unfollowed := true, recurses := true, named := ["groat/message.dialects", "groat/message.types", "groat/message.fields", "internal/strconv.uint64pow10", "math/bits.deBruijn32tab", "math/bits.deBruijn64tab", "errors.errorType"], apart := false, laid := [("math/bits.deBruijn32tab", laid_math_bits_deBruijn32tab), ("math/bits.deBruijn64tab", laid_math_bits_deBruijn64tab), ("internal/strconv.uint64pow10", laid_internal_strconv_uint64pow10), ("errors.errorType", laid_errors_errorType), ("groat/message.fields", laid_groat_message_fields), ("groat/message.types", laid_groat_message_types), ("groat/message.dialects", laid_groat_message_dialects)], narrowed := true }
def MessageTurnsUptoSaid : Prop := messageTurnsUptoRow.holds Tryz.pinned (OpenSpec.upto messageTurnsSpec)

/-- 'groatlaw05.MessageShort', WHERE WHAT IT READS IS OF BULK AT MOST 1048576: true; the input reads as it did. -/
def messageShortUptoRow : OpenClaim := { program := "ytommklkihjmgcaagreatdoor", sum := "963adc80d21d685d9eba5fbaa32adc3f0c194bd540ad5247724dd5bb1153be91", func := "groat/groatlaw05.MessageShort", spec := "messageShort", inPlace := ["internal/bytealg.IndexByteString", "internal/abi.NoEscape", "internal/bytealg.MakeNoZero", "internal/reflectlite.TypeOf", "internal/reflectlite.ValueOf", "(internal/reflectlite.Value).Type", "(internal/reflectlite.Value).IsNil", "(internal/reflectlite.Value).Elem", "(internal/reflectlite.Value).Set"], unfollowed := true, recurses := true, named := ["groat/message.dialects", "groat/message.types", "groat/message.fields", "internal/strconv.uint64pow10", "math/bits.deBruijn32tab", "math/bits.deBruijn64tab", "errors.errorType"], apart := false, laid := [("math/bits.deBruijn32tab", laid_math_bits_deBruijn32tab), ("math/bits.deBruijn64tab", laid_math_bits_deBruijn64tab), ("internal/strconv.uint64pow10", laid_internal_strconv_uint64pow10), ("errors.errorType", laid_errors_errorType), ("groat/message.fields", laid_groat_message_fields), ("groat/message.types", laid_groat_message_types), ("groat/message.dialects", laid_groat_message_dialects)], narrowed := true }
def MessageShortUptoSaid : Prop := messageShortUptoRow.holds Tryz.pinned (OpenSpec.upto messageShortSpec)

/-- 'groatlaw05.MessageUnlike', WHERE WHAT IT READS IS OF BULK AT MOST 1048576: true; the input reads as it did. -/
def messageUnlikeUptoRow : OpenClaim := { program := "ytommklkihjmgcaagreatdoor", sum := "963adc80d21d685d9eba5fbaa32adc3f0c194bd540ad5247724dd5bb1153be91", func := "groat/groatlaw05.MessageUnlike", spec := "messageUnlike", inPlace := ["internal/bytealg.IndexByteString", "internal/abi.NoEscape", "internal/bytealg.MakeNoZero", "internal/reflectlite.TypeOf", "internal/reflectlite.ValueOf", "(internal/reflectlite.Value).Type", "(internal/reflectlite.Value).IsNil", "(internal/reflectlite.Value).Elem", "(internal/reflectlite.Value).Set"], unfollowed := true, recurses := true, named := ["groat/message.dialects", "groat/message.types", "groat/message.fields", "internal/strconv.uint64pow10", "math/bits.deBruijn32tab", "math/bits.deBruijn64tab", "errors.errorType"], apart := false, laid := [("math/bits.deBruijn32tab", laid_math_bits_deBruijn32tab), ("math/bits.deBruijn64tab", laid_math_bits_deBruijn64tab), ("internal/strconv.uint64pow10", laid_internal_strconv_uint64pow10), ("errors.errorType", laid_errors_errorType), ("groat/message.fields", laid_groat_message_fields), ("groat/message.types", laid_groat_message_types), ("groat/message.dialects", laid_groat_message_dialects)], narrowed := true }
def MessageUnlikeUptoSaid : Prop := messageUnlikeUptoRow.holds Tryz.pinned (OpenSpec.upto messageUnlikeSpec)

/-- 'groatlaw05.MessageApart', WHERE WHAT IT READS IS OF BULK AT MOST 1048576: true; the input reads as it did. -/
def messageApartUptoRow : OpenClaim := { program := "ytommklkihjmgcaagreatdoor", sum := "963adc80d21d685d9eba5fbaa32adc3f0c194bd540ad5247724dd5bb1153be91", func := "groat/groatlaw05.MessageApart", spec := "messageApart", inPlace := ["internal/bytealg.IndexByteString", "internal/abi.NoEscape", "internal/bytealg.MakeNoZero", "internal/reflectlite.TypeOf", "internal/reflectlite.ValueOf", "(internal/reflectlite.Value).Type", "(internal/reflectlite.Value).IsNil", "(internal/reflectlite.Value).Elem", "(internal/reflectlite.Value).Set"], unfollowed := true, recurses := true, named := ["groat/message.dialects", "groat/message.types", "groat/message.fields", "internal/strconv.uint64pow10", "math/bits.deBruijn32tab", "math/bits.deBruijn64tab", "errors.errorType"], apart := false, laid := [("math/bits.deBruijn32tab", laid_math_bits_deBruijn32tab), ("math/bits.deBruijn64tab", laid_math_bits_deBruijn64tab), ("internal/strconv.uint64pow10", laid_internal_strconv_uint64pow10), ("errors.errorType", laid_errors_errorType), ("groat/message.fields", laid_groat_message_fields), ("groat/message.types", laid_groat_message_types), ("groat/message.dialects", laid_groat_message_dialects)], narrowed := true }
def MessageApartUptoSaid : Prop := messageApartUptoRow.holds Tryz.pinned (OpenSpec.upto messageApartSpec)

/-- 'groatlaw05.MessageWrites', WHERE WHAT IT READS IS OF BULK AT MOST 1048576: true; the input reads as it did. -/
def messageWritesUptoRow : OpenClaim := { program := "ytommklkihjmgcaagreatdoor", sum := "963adc80d21d685d9eba5fbaa32adc3f0c194bd540ad5247724dd5bb1153be91", func := "groat/groatlaw05.MessageWrites", spec := "messageWrites", inPlace := ["internal/bytealg.IndexByteString", "internal/abi.NoEscape", "internal/bytealg.MakeNoZero", "internal/reflectlite.TypeOf", "internal/reflectlite.ValueOf", "(internal/reflectlite.Value).Type", "(internal/reflectlite.Value).IsNil", "(internal/reflectlite.Value).Elem", "(internal/reflectlite.Value).Set"], unfollowed := true, recurses := true, named := ["groat/message.dialects", "groat/message.types", "groat/message.fields", "internal/strconv.uint64pow10", "math/bits.deBruijn32tab", "math/bits.deBruijn64tab", "errors.errorType"], apart := false, laid := [("math/bits.deBruijn32tab", laid_math_bits_deBruijn32tab), ("math/bits.deBruijn64tab", laid_math_bits_deBruijn64tab), ("internal/strconv.uint64pow10", laid_internal_strconv_uint64pow10), ("errors.errorType", laid_errors_errorType), ("groat/message.fields", laid_groat_message_fields), ("groat/message.types", laid_groat_message_types), ("groat/message.dialects", laid_groat_message_dialects)], narrowed := true }
def MessageWritesUptoSaid : Prop := messageWritesUptoRow.holds Tryz.pinned (OpenSpec.upto messageWritesSpec)

/-- 'groatlaw05.MessageReads', WHERE WHAT IT READS IS OF BULK AT MOST 1048576: true; the input reads as it did. -/
def messageReadsUptoRow : OpenClaim := { program := "ytommklkihjmgcaagreatdoor", sum := "963adc80d21d685d9eba5fbaa32adc3f0c194bd540ad5247724dd5bb1153be91", func := "groat/groatlaw05.MessageReads", spec := "messageReads", inPlace := ["internal/bytealg.IndexByteString", "internal/abi.NoEscape", "internal/bytealg.MakeNoZero", "internal/reflectlite.TypeOf", "internal/reflectlite.ValueOf", "(internal/reflectlite.Value).Type", "(internal/reflectlite.Value).IsNil", "(internal/reflectlite.Value).Elem", "(internal/reflectlite.Value).Set"], unfollowed := true, recurses := true, named := ["groat/message.dialects", "groat/message.types", "groat/message.fields", "internal/strconv.uint64pow10", "math/bits.deBruijn32tab", "math/bits.deBruijn64tab", "errors.errorType"], apart := false, laid := [("math/bits.deBruijn32tab", laid_math_bits_deBruijn32tab), ("math/bits.deBruijn64tab", laid_math_bits_deBruijn64tab), ("internal/strconv.uint64pow10", laid_internal_strconv_uint64pow10), ("errors.errorType", laid_errors_errorType), ("groat/message.fields", laid_groat_message_fields), ("groat/message.types", laid_groat_message_types), ("groat/message.dialects", laid_groat_message_dialects)], narrowed := true }
def MessageReadsUptoSaid : Prop := messageReadsUptoRow.holds Tryz.pinned (OpenSpec.upto messageReadsSpec)

/-- 'groatlaw05.MessageBack', WHERE WHAT IT READS IS OF BULK AT MOST 1048576: true; the input reads as it did. -/
def messageBackUptoRow : OpenClaim := { program := "ytommklkihjmgcaagreatdoor", sum := "963adc80d21d685d9eba5fbaa32adc3f0c194bd540ad5247724dd5bb1153be91", func := "groat/groatlaw05.MessageBack", spec := "messageBack", inPlace := ["internal/bytealg.IndexByteString", "internal/abi.NoEscape", "internal/bytealg.MakeNoZero", "internal/reflectlite.TypeOf", "internal/reflectlite.ValueOf", "(internal/reflectlite.Value).Type", "(internal/reflectlite.Value).IsNil", "(internal/reflectlite.Value).Elem", "(internal/reflectlite.Value).Set"], unfollowed := true, recurses := true, named := ["groat/message.dialects", "groat/message.types", "groat/message.fields", "internal/strconv.uint64pow10", "math/bits.deBruijn32tab", "math/bits.deBruijn64tab", "errors.errorType"], apart := false, laid := [("math/bits.deBruijn32tab", laid_math_bits_deBruijn32tab), ("math/bits.deBruijn64tab", laid_math_bits_deBruijn64tab), ("internal/strconv.uint64pow10", laid_internal_strconv_uint64pow10), ("errors.errorType", laid_errors_errorType), ("groat/message.fields", laid_groat_message_fields), ("groat/message.types", laid_groat_message_types), ("groat/message.dialects", laid_groat_message_dialects)], narrowed := true }
def MessageBackUptoSaid : Prop := messageBackUptoRow.holds Tryz.pinned (OpenSpec.upto messageBackSpec)

/-- 'groatlaw05.MessageMaps', WHERE WHAT IT READS IS OF BULK AT MOST 1048576: true; the input reads as it did. -/
def messageMapsUptoRow : OpenClaim := { program := "ytommklkihjmgcaagreatdoor", sum := "963adc80d21d685d9eba5fbaa32adc3f0c194bd540ad5247724dd5bb1153be91", func := "groat/groatlaw05.MessageMaps", spec := "messageMaps", inPlace := ["internal/bytealg.IndexByteString", "internal/abi.NoEscape", "internal/bytealg.MakeNoZero", "internal/reflectlite.TypeOf", "internal/reflectlite.ValueOf", "(internal/reflectlite.Value).Type", "(internal/reflectlite.Value).IsNil", "(internal/reflectlite.Value).Elem", "(internal/reflectlite.Value).Set"], unfollowed := true, recurses := true, named := ["groat/message.dialects", "groat/message.types", "groat/message.fields", "internal/strconv.uint64pow10", "math/bits.deBruijn32tab", "math/bits.deBruijn64tab", "errors.errorType"], apart := false, laid := [("math/bits.deBruijn32tab", laid_math_bits_deBruijn32tab), ("math/bits.deBruijn64tab", laid_math_bits_deBruijn64tab), ("internal/strconv.uint64pow10", laid_internal_strconv_uint64pow10), ("errors.errorType", laid_errors_errorType), ("groat/message.fields", laid_groat_message_fields), ("groat/message.types", laid_groat_message_types), ("groat/message.dialects", laid_groat_message_dialects)], narrowed := true }
def MessageMapsUptoSaid : Prop := messageMapsUptoRow.holds Tryz.pinned (OpenSpec.upto messageMapsSpec)

/-- 'groatlaw05.MessageForms', WHERE WHAT IT READS IS OF BULK AT MOST 1048576: true; the input reads as it did. -/
def messageFormsUptoRow : OpenClaim := { program := "ytommklkihjmgcaagreatdoor", sum := "963adc80d21d685d9eba5fbaa32adc3f0c194bd540ad5247724dd5bb1153be91", func := "groat/groatlaw05.MessageForms", spec := "messageForms", inPlace := ["internal/bytealg.IndexByteString", "internal/abi.NoEscape", "internal/bytealg.MakeNoZero", "internal/reflectlite.TypeOf", "internal/reflectlite.ValueOf", "(internal/reflectlite.Value).Type", "(internal/reflectlite.Value).IsNil", "(internal/reflectlite.Value).Elem", "(internal/reflectlite.Value).Set"], unfollowed := true, recurses := true, named := ["groat/message.dialects", "groat/message.types", "groat/message.fields", "internal/strconv.uint64pow10", "math/bits.deBruijn32tab", "math/bits.deBruijn64tab", "errors.errorType"], apart := false, laid := [("math/bits.deBruijn32tab", laid_math_bits_deBruijn32tab), ("math/bits.deBruijn64tab", laid_math_bits_deBruijn64tab), ("internal/strconv.uint64pow10", laid_internal_strconv_uint64pow10), ("errors.errorType", laid_errors_errorType), ("groat/message.fields", laid_groat_message_fields), ("groat/message.types", laid_groat_message_types), ("groat/message.dialects", laid_groat_message_dialects)], narrowed := true }
def MessageFormsUptoSaid : Prop := messageFormsUptoRow.holds Tryz.pinned (OpenSpec.upto messageFormsSpec)

end Rows
end Go.Proofs.YtommklkihjmgcaaGreatDoor
