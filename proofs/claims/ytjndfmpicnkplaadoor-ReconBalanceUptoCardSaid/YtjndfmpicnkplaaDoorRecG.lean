/- Layer 20: the document's example, in plain words; what an answer has. No walk. -/
import Derived.Test.YtjndfmpicnkplaaDoorRecD
import Derived.Test.YtjndfmpicnkplaaDoorRecF
namespace Go.Proofs.YtjndfmpicnkplaaDoor.msgw
open Go.RowKit
open Go.Proofs.YtjndfmpicnkplaaDoor.msgp
open Go.Proofs.YtjndfmpicnkplaaDoor.buf
open Go.Proofs.YtjndfmpicnkplaaDoor.fieldp
open Go.Proofs.YtjndfmpicnkplaaDoor.fieldw
def exCode : ByteArray := ⟨#[49, 49]⟩
def exWhen : ByteArray := ⟨#[48, 49, 48, 49, 48, 48, 48, 48, 48, 48]⟩
def exStan : ByteArray := ⟨#[48, 48, 48, 48, 48, 49]⟩
def exT : Five := (1, 0, 5, 0, 5)
def exM : Flds := [(7, exWhen), (11, exStan), (32, exCode), (74, ⟨#[48, 48, 48, 48, 48, 48, 48, 48, 48, 49]⟩), (76, ⟨#[48, 48, 48, 48, 48, 48, 48, 48, 48, 48]⟩), (86, ⟨#[48, 48, 48, 48, 48, 48, 48, 48, 48, 48, 48, 48, 48, 48, 48, 53]⟩), (88, ⟨#[48, 48, 48, 48, 48, 48, 48, 48, 48, 48, 48, 48, 48, 48, 48, 48]⟩), (97, ⟨#[67, 48, 48, 48, 48, 48, 48, 48, 48, 48, 48, 48, 48, 48, 48, 48, 53]⟩)]
def exL : List Tot := [(0, 0, 0, 0, 0, 0), (1, 1, 0, 5, 0, 5)]
theorem ex_ask : askF exCode exWhen exStan exT = some exM := by kernel_rfl
theorem ex_err : errF 0 exM = none := by kernel_rfl
theorem ex_small : SmallF exM := by
  intro x hx
  simp only [exM, List.mem_cons, List.not_mem_nil, or_false] at hx
  rcases hx with rfl | rfl | rfl | rfl | rfl | rfl | rfl | rfl <;> decide
theorem ex_askR : askR exCode exWhen exStan exT = some exM := by unfold askR; rw [ex_ask, Option.bind_some, if_pos ex_err]
theorem ex_one : ansOf 500 exM 1 true exL = ⟨#[48, 48]⟩ := by kernel_rfl
theorem ex_two : ansOf 500 exM 0 true exL = ⟨#[57, 53]⟩ := by kernel_rfl
/-- A field, if there is one. -/
def opt1 (F : Flds) (no : Int) : Flds := match getM F no with
  | none => []
  | some s => [(no, s)]
theorem answer_eq (ty : Int) (F : Flds) (m : Int) (closed : Bool) (L : List Tot) : answerM ty F m closed L = opt1 F 7 ++ (opt1 F 11 ++ (opt1 F 32 ++ [(39, ansOf ty F m closed L)])) := by
  unfold answerM
  obtain ⟨a, ea⟩ : ∃ a, ansOf ty F m closed L = a := ⟨_, rfl⟩
  rw [ea]
  unfold opt1
  cases h7 : getM F 7 <;> cases h11 : getM F 11 <;> cases h32 : getM F 32 <;> simp only [copyM, List.foldl, h7, h11, h32] <;> rfl
theorem answer_code (ty : Int) (F : Flds) (m : Int) (closed : Bool) (L : List Tot) : getM (answerM ty F m closed L) 39 = some (ansOf ty F m closed L) := by
  rw [answer_eq]
  unfold opt1
  cases h7 : getM F 7 <;> cases h11 : getM F 11 <;> cases h32 : getM F 32 <;> rfl
theorem answer_get (ty : Int) (F : Flds) (m : Int) (closed : Bool) (L : List Tot) (no : Int) (h : no = 7 ∨ no = 11 ∨ no = 32) : getM (answerM ty F m closed L) no = getM F no := by
  rw [answer_eq]
  unfold opt1
  rcases h with rfl | rfl | rfl <;> cases h7 : getM F 7 <;> cases h11 : getM F 11 <;> cases h32 : getM F 32 <;> rfl
theorem ans_cases (ty : Int) (F : Flds) (m : Int) (closed : Bool) (L : List Tot) : ansOf ty F m closed L = ⟨#[48, 48]⟩ ∨ ansOf ty F m closed L = ⟨#[57, 53]⟩ ∨ ansOf ty F m closed L = ⟨#[51, 48]⟩ := by
  unfold ansOf
  split
  · exact .inr (.inr rfl)
  · split
    · exact .inl rfl
    · exact .inr (.inl rfl)
theorem opt1_small {F : Flds} (h : SmallF F) (no : Int) : SmallF (opt1 F no) := by
  unfold opt1
  have h2 := getM_small h no
  cases e : getM F no with
  | none => exact fun x hx => absurd hx (by simp)
  | some s =>
    intro x hx
    obtain rfl := List.mem_singleton.1 hx
    rw [e] at h2
    exact h2
theorem answer_small (ty : Int) {F : Flds} (h : SmallF F) (m : Int) (closed : Bool) (L : List Tot) : SmallF (answerM ty F m closed L) := by
  rw [answer_eq]
  intro x hx
  rcases List.mem_append.1 hx with hx | hx
  · exact opt1_small h 7 x hx
  rcases List.mem_append.1 hx with hx | hx
  · exact opt1_small h 11 x hx
  rcases List.mem_append.1 hx with hx | hx
  · exact opt1_small h 32 x hx
  · obtain rfl := List.mem_singleton.1 hx
    rcases ans_cases ty F m closed L with e | e | e <;> rw [e] <;> decide
def one (F : Flds) (no : Int) : Nat := if (getM F no).isSome then 1 else 0
theorem answer_len (ty : Int) (F : Flds) (m : Int) (closed : Bool) (L : List Tot) : (answerM ty F m closed L).length = 1 + one F 7 + one F 11 + one F 32 := by
  rw [answer_eq]
  unfold opt1 one
  cases h7 : getM F 7 <;> cases h11 : getM F 11 <;> cases h32 : getM F 32 <;> rfl
end Go.Proofs.YtjndfmpicnkplaaDoor.msgw
