/-
  No cell of these rows narrows 'for every input' (looked for: loops, veiled, ifaces, maps, wideKeys, modest, calm, conditions, laid).
  DERIVED. THE GIVEN ROWS OF THIS SEAT. 6 by the template 'for every input the law returns true; each argument reads behind the call as it read before'; 0 by the template 'total and deterministic' (their statements: YtihjielmmifbaaaTotals.lean).
  GIVEN WITH THE SEED: the statements are not yours to turn. If you find one false, say at which input.
  Laid BY PROGRAM, IN A SANDBOX (cutbox-rows.mjs): the forced cells as the released guide's own fill.sh prints them over the translation f2d293c268730e3b… (all of the seat's roots in one cut). By AI agents, Wed Nov 11 2026. No macro, syntax, notation, axiom, sorry.
-/
import Derived.Test.YtihjielmmifbaaaChecked
import GoSem.Claim
import GoSem.ClaimJoined
import GoSem.ClaimMapViews
import Derived.JoinedTies
import Derived.KernelRfl
namespace Go.Proofs.Ytihjielmmifbaaa
/- THE CELL 'sum', in the pinned program and in every row, IS THE sha256 OF THE DUMP (.gsa) THAT YtihjielmmifbaaaProg.lean LOADS. Nothing in Lean hashes anything: it is a label: what it is worth is what the hold of that sum in a sandbox is worth. -/
noncomputable def Try.pinned : Pinned := { name := "ytihjielmmifbaaa", sum := "f2d293c268730e3b6dbb491a706143ef027023e8c9ee2ede4cf686539ef4d2fd", checked := Try.checked }
namespace Rows
def none {H : Type} : Left H := { results := [], args := [] }

/-- 'groatlaw14.LifeNext': WHATEVER THE INPUT: true; the input reads as it did. -/
def lifeNextSpec : ChangeSpec := { name := "lifeNext", fn := fun _ => fun
  | [d1, d2] => { results := [.lit (.bool true)], args := [d1, d2] }
  | _ => none }
def lifeNextRow : OpenClaim := { program := "ytihjielmmifbaaa", sum := "f2d293c268730e3b6dbb491a706143ef027023e8c9ee2ede4cf686539ef4d2fd", func := "groat/groatlaw14.LifeNext", spec := "lifeNext", inPlace := ["internal/abi.NoEscape", "internal/bytealg.MakeNoZero"], apart := false }
def LifeNextSaid : Prop := lifeNextRow.holds Try.pinned (OpenSpec.ofChange lifeNextSpec)

/-- ITS FALSE NEIGHBOUR: 'it returns false'. Refute it at one input. -/
def lifeNextWrong : ChangeSpec := { name := "lifeNext", fn := fun _ => fun
  | [d1, d2] => { results := [.lit (.bool false)], args := [d1, d2] }
  | _ => none }
def LifeNextWrongFalsely : Prop := lifeNextRow.holds Try.pinned (OpenSpec.ofChange lifeNextWrong)

/-- 'groatlaw14.LifeOnce': WHATEVER THE INPUT: true; the input reads as it did. -/
def lifeOnceSpec : ChangeSpec := { name := "lifeOnce", fn := fun _ => fun
  | [d] => { results := [.lit (.bool true)], args := [d] }
  | _ => none }
def lifeOnceRow : OpenClaim := { program := "ytihjielmmifbaaa", sum := "f2d293c268730e3b6dbb491a706143ef027023e8c9ee2ede4cf686539ef4d2fd", func := "groat/groatlaw14.LifeOnce", spec := "lifeOnce", inPlace := ["internal/abi.NoEscape", "internal/bytealg.MakeNoZero"], apart := false }
def LifeOnceSaid : Prop := lifeOnceRow.holds Try.pinned (OpenSpec.ofChange lifeOnceSpec)

/-- ITS FALSE NEIGHBOUR: 'it returns false'. Refute it at one input. -/
def lifeOnceWrong : ChangeSpec := { name := "lifeOnce", fn := fun _ => fun
  | [d] => { results := [.lit (.bool false)], args := [d] }
  | _ => none }
def LifeOnceWrongFalsely : Prop := lifeOnceRow.holds Try.pinned (OpenSpec.ofChange lifeOnceWrong)

/-- 'groatlaw14.LifeStays': WHATEVER THE INPUT: true; the input reads as it did. -/
def lifeStaysSpec : ChangeSpec := { name := "lifeStays", fn := fun _ => fun
  | [d] => { results := [.lit (.bool true)], args := [d] }
  | _ => none }
def lifeStaysRow : OpenClaim := { program := "ytihjielmmifbaaa", sum := "f2d293c268730e3b6dbb491a706143ef027023e8c9ee2ede4cf686539ef4d2fd", func := "groat/groatlaw14.LifeStays", spec := "lifeStays", inPlace := ["internal/abi.NoEscape", "internal/bytealg.MakeNoZero"], apart := false }
def LifeStaysSaid : Prop := lifeStaysRow.holds Try.pinned (OpenSpec.ofChange lifeStaysSpec)

/-- ITS FALSE NEIGHBOUR: 'it returns false'. Refute it at one input. -/
def lifeStaysWrong : ChangeSpec := { name := "lifeStays", fn := fun _ => fun
  | [d] => { results := [.lit (.bool false)], args := [d] }
  | _ => none }
def LifeStaysWrongFalsely : Prop := lifeStaysRow.holds Try.pinned (OpenSpec.ofChange lifeStaysWrong)

/-- 'groatlaw14.LifePosts': WHATEVER THE INPUT: true; the input reads as it did. -/
def lifePostsSpec : ChangeSpec := { name := "lifePosts", fn := fun _ => fun
  | [d1, d2] => { results := [.lit (.bool true)], args := [d1, d2] }
  | _ => none }
def lifePostsRow : OpenClaim := { program := "ytihjielmmifbaaa", sum := "f2d293c268730e3b6dbb491a706143ef027023e8c9ee2ede4cf686539ef4d2fd", func := "groat/groatlaw14.LifePosts", spec := "lifePosts", inPlace := ["internal/abi.NoEscape", "internal/bytealg.MakeNoZero"], apart := false }
def LifePostsSaid : Prop := lifePostsRow.holds Try.pinned (OpenSpec.ofChange lifePostsSpec)

/-- ITS FALSE NEIGHBOUR: 'it returns false'. Refute it at one input. -/
def lifePostsWrong : ChangeSpec := { name := "lifePosts", fn := fun _ => fun
  | [d1, d2] => { results := [.lit (.bool false)], args := [d1, d2] }
  | _ => none }
def LifePostsWrongFalsely : Prop := lifePostsRow.holds Try.pinned (OpenSpec.ofChange lifePostsWrong)

/-- 'groatlaw14.LifeKeys': WHATEVER THE INPUT: true; the input reads as it did. -/
def lifeKeysSpec : ChangeSpec := { name := "lifeKeys", fn := fun _ => fun
  | [d1, d2] => { results := [.lit (.bool true)], args := [d1, d2] }
  | _ => none }
def lifeKeysRow : OpenClaim := { program := "ytihjielmmifbaaa", sum := "f2d293c268730e3b6dbb491a706143ef027023e8c9ee2ede4cf686539ef4d2fd", func := "groat/groatlaw14.LifeKeys", spec := "lifeKeys", inPlace := ["internal/abi.NoEscape", "internal/bytealg.MakeNoZero"], apart := false }
def LifeKeysSaid : Prop := lifeKeysRow.holds Try.pinned (OpenSpec.ofChange lifeKeysSpec)

/-- ITS FALSE NEIGHBOUR: 'it returns false'. Refute it at one input. -/
def lifeKeysWrong : ChangeSpec := { name := "lifeKeys", fn := fun _ => fun
  | [d1, d2] => { results := [.lit (.bool false)], args := [d1, d2] }
  | _ => none }
def LifeKeysWrongFalsely : Prop := lifeKeysRow.holds Try.pinned (OpenSpec.ofChange lifeKeysWrong)

/-- 'groatlaw14.LifeSame': WHATEVER THE INPUT: true; the input reads as it did. -/
def lifeSameSpec : ChangeSpec := { name := "lifeSame", fn := fun _ => fun
  | [d] => { results := [.lit (.bool true)], args := [d] }
  | _ => none }
def lifeSameRow : OpenClaim := { program := "ytihjielmmifbaaa", sum := "f2d293c268730e3b6dbb491a706143ef027023e8c9ee2ede4cf686539ef4d2fd", func := "groat/groatlaw14.LifeSame", spec := "lifeSame", inPlace := ["internal/abi.NoEscape", "internal/bytealg.MakeNoZero"], apart := false }
def LifeSameSaid : Prop := lifeSameRow.holds Try.pinned (OpenSpec.ofChange lifeSameSpec)

/-- ITS FALSE NEIGHBOUR: 'it returns false'. Refute it at one input. -/
def lifeSameWrong : ChangeSpec := { name := "lifeSame", fn := fun _ => fun
  | [d] => { results := [.lit (.bool false)], args := [d] }
  | _ => none }
def LifeSameWrongFalsely : Prop := lifeSameRow.holds Try.pinned (OpenSpec.ofChange lifeSameWrong)

/- THE SECOND FORM. 'bulk': how many values and letters a reading holds, each counted each time it is reached (what is shared counts as often as it is met; a slice's spare places count too). A statement '..UptoSaid' is the law's where the arguments, and the package variables that the reading takes, are together of bulk at most 1048576: NARROWER than '..Said'. Prove '..Said' where nothing that the law and all that it calls make is longer than what came in: it says more and counts as full. Else prove '..UptoSaid'. A law counts once. -/
mutual
def uptoBulk {H : Type} : DataW H → Nat
  | .lit (.string bytes) => bytes.length + 1
  | .lit _ => 1
  | .nil => 1
  | .ptr d => uptoBulk d + 1
  | .slice elems spare => uptoBulkAll elems + uptoBulkAll spare + 1
  | .agg parts => uptoBulkAll parts + 1
  | .iface _ d => uptoBulk d + 1
  | .map entries => uptoBulkEntries entries + 1
  | .held _ => 1
def uptoBulkAll {H : Type} : List (DataW H) → Nat
  | [] => 0
  | d :: r => uptoBulk d + uptoBulkAll r
def uptoBulkEntries {H : Type} : List (Lit × DataW H) → Nat
  | [] => 0
  | x :: r => uptoBulkEntry x + uptoBulkEntries r
def uptoBulkEntry {H : Type} : Lit × DataW H → Nat
  | (.string bytes, d) => bytes.length + uptoBulk d + 1
  | (_, d) => uptoBulk d + 1
 end
def uptoSmall : (H : Type) → List (DataW H) → Bool := fun _ ds => decide (uptoBulkAll ds ≤ 1048576)
def OpenSpec.upto (s : _root_.Go.ChangeSpec) : _root_.Go.OpenSpec := { _root_.Go.OpenSpec.ofChange s with cond := some uptoSmall }

/-- 'groatlaw14.LifeNext', WHERE WHAT IT READS IS OF BULK AT MOST 1048576: true; the input reads as it did. -/
def lifeNextUptoRow : OpenClaim := { program := "ytihjielmmifbaaa", sum := "f2d293c268730e3b6dbb491a706143ef027023e8c9ee2ede4cf686539ef4d2fd", func := "groat/groatlaw14.LifeNext", spec := "lifeNext", inPlace := ["internal/abi.NoEscape", "internal/bytealg.MakeNoZero"], apart := false, narrowed := true }
def LifeNextUptoSaid : Prop := lifeNextUptoRow.holds Try.pinned (OpenSpec.upto lifeNextSpec)

/-- 'groatlaw14.LifeOnce', WHERE WHAT IT READS IS OF BULK AT MOST 1048576: true; the input reads as it did. -/
def lifeOnceUptoRow : OpenClaim := { program := "ytihjielmmifbaaa", sum := "f2d293c268730e3b6dbb491a706143ef027023e8c9ee2ede4cf686539ef4d2fd", func := "groat/groatlaw14.LifeOnce", spec := "lifeOnce", inPlace := ["internal/abi.NoEscape", "internal/bytealg.MakeNoZero"], apart := false, narrowed := true }
def LifeOnceUptoSaid : Prop := lifeOnceUptoRow.holds Try.pinned (OpenSpec.upto lifeOnceSpec)

/-- 'groatlaw14.LifeStays', WHERE WHAT IT READS IS OF BULK AT MOST 1048576: true; the input reads as it did. -/
def lifeStaysUptoRow : OpenClaim := { program := "ytihjielmmifbaaa", sum := "f2d293c268730e3b6dbb491a706143ef027023e8c9ee2ede4cf686539ef4d2fd", func := "groat/groatlaw14.LifeStays", spec := "lifeStays", inPlace := ["internal/abi.NoEscape", "internal/bytealg.MakeNoZero"], apart := false, narrowed := true }
def LifeStaysUptoSaid : Prop := lifeStaysUptoRow.holds Try.pinned (OpenSpec.upto lifeStaysSpec)

/-- 'groatlaw14.LifePosts', WHERE WHAT IT READS IS OF BULK AT MOST 1048576: true; the input reads as it did. -/
def lifePostsUptoRow : OpenClaim := { program := "ytihjielmmifbaaa", sum := "f2d293c268730e3b6dbb491a706143ef027023e8c9ee2ede4cf686539ef4d2fd", func := "groat/groatlaw14.LifePosts", spec := "lifePosts", inPlace := ["internal/abi.NoEscape", "internal/bytealg.MakeNoZero"], apart := false, narrowed := true }
def LifePostsUptoSaid : Prop := lifePostsUptoRow.holds Try.pinned (OpenSpec.upto lifePostsSpec)

/-- 'groatlaw14.LifeKeys', WHERE WHAT IT READS IS OF BULK AT MOST 1048576: true; the input reads as it did. -/
def lifeKeysUptoRow : OpenClaim := { program := "ytihjielmmifbaaa", sum := "f2d293c268730e3b6dbb491a706143ef027023e8c9ee2ede4cf686539ef4d2fd", func := "groat/groatlaw14.LifeKeys", spec := "lifeKeys", inPlace := ["internal/abi.NoEscape", "internal/bytealg.MakeNoZero"], apart := false, narrowed := true }
def LifeKeysUptoSaid : Prop := lifeKeysUptoRow.holds Try.pinned (OpenSpec.upto lifeKeysSpec)

/-- 'groatlaw14.LifeSame', WHERE WHAT IT READS IS OF BULK AT MOST 1048576: true; the input reads as it did. -/
def lifeSameUptoRow : OpenClaim := { program := "ytihjielmmifbaaa", sum := "f2d293c268730e3b6dbb491a706143ef027023e8c9ee2ede4cf686539ef4d2fd", func := "groat/groatlaw14.LifeSame", spec := "lifeSame", inPlace := ["internal/abi.NoEscape", "internal/bytealg.MakeNoZero"], apart := false, narrowed := true }
def LifeSameUptoSaid : Prop := lifeSameUptoRow.holds Try.pinned (OpenSpec.upto lifeSameSpec)

end Rows
end Go.Proofs.Ytihjielmmifbaaa
