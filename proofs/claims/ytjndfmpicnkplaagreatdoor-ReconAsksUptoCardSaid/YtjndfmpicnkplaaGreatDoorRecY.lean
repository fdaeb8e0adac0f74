/- Layer 20: Check of any message of a right type. Layer 20: the document's example, in plain words; what an answer has. No walk. Layer 20: the document's example, walked. Layer 20: what was stated is read again; a balance. No walk. Layer 20: what was stated, in memory; Ask, Read, Answer as the laws use them. Conditions: as each theorem says. -/
import Derived.Test.YtjndfmpicnkplaaGreatDoorRecX
import Derived.Test.YtjndfmpicnkplaaGreatDoorMsgZ
import Derived.Test.YtjndfmpicnkplaaGreatDoorFieldNum
namespace Go.Proofs.YtjndfmpicnkplaaGreatDoor.msgw
open Go.RowKit
open Go.Proofs.YtjndfmpicnkplaaGreatDoor.msgp
open Go.Proofs.YtjndfmpicnkplaaGreatDoor.buf
open Go.Proofs.YtjndfmpicnkplaaGreatDoor.fieldp
open Go.Proofs.YtjndfmpicnkplaaGreatDoor.fieldw
/-- The number of what is wrong, or nought. -/
def erZ : Option Er → Int
  | none => 0
  | some e => erN e
theorem errF_ne {last : Int} {F : Flds} {e : Er} (h : errF last F = some e) : erN e ≠ 0 := by
  induction F generalizing last with
  | nil => cases h
  | cons x r ih =>
    unfold errF at h
    split at h
    · obtain rfl := Option.some.inj h; show (52 : Int) ≠ 0; decide
    · split at h
      · obtain rfl := Option.some.inj h; show (52 : Int) ≠ 0; decide
      · split at h
        · exact ih h
        · rename_i hc
          obtain rfl := Option.some.inj h
          exact hc
theorem check_any2 {w : World} {v : Value} {F : Flds} (hF : FsAt w v F) (hT : Tabs w) (hS : SmallF F) (hl : F.length ≤ 24) (ty : Int) (hty : typesL.contains ty = true) :
    Calls Tryz.prog 17 #[.agg #[.int .i64 ty, v]] w fun e w' => e = .returned (.int .i64 (erZ (errF 0 F))) ∧ Below w.heap.size w w' := by
  obtain ⟨p, c, rfl⟩ := hF.shape
  have b0 : Below w.heap.size w (w.alloc (.cells #[.int .i64 ty, .slice p F.length c] 29)) := (Below.refl _ _).alloc (Nat.le_refl _) _
  have HC := Lib.hid (check_in (hF.below b0) (hT.below b0) ty hty hl hS)
  have HB0 := Lib.hid b0
  have HT := Lib.hid (hT.below b0)
  have HR := Lib.hid (show erZ (errF 0 F) = erZ (errF 0 F) from rfl)
  obtain ⟨R, eR⟩ : ∃ R, errF 0 F = R := ⟨_, rfl⟩
  rw [eR] at HC ⊢
  clear hF hT hS hl b0 eR HR
  go_enter Tryz.func17, Tryz.ntmps17
  go_wp2_with fail
  refine HC.out.mono ?_
  rintro e w1 ⟨v1, rfl, h1, b1⟩
  have HT1 := Lib.hid (HT.out.below b1)
  have HB := Lib.hid (HB0.out.trans (b1.mono HB0.out.size))
  have HK := Lib.hid (show Calls Tryz.prog 37 #[v1] w1 fun e w' => e = .returned (.int .i64 (erZ R)) ∧ Below w1.heap.size w1 w' from by
    cases R with
    | none =>
      have h2 : v1 = .nilIface := h1
      subst h2
      exact told_ok (w := w1)
    | some er => exact told_any HT1.out.err h1)
  clear h1 b1 HC
  go_wp2_with fail
  refine HK.out.mono ?_
  rintro e w2 ⟨rfl, b2⟩
  have HB2 := Lib.hid (HB.out.trans (b2.mono HB.out.size))
  clear b2
  go_wp2_with fail
  go_ret
  exact ⟨rfl, HB2.out⟩
theorem checkAt_any {F : Flds} (hS : SmallF F) (hl : F.length ≤ 24) : CheckAt F := by
  intro w v hF hT
  refine ⟨erZ (errF 0 F), ?_, check_any2 hF hT hS hl 500 (by decide)⟩
  cases e : errF 0 F with
  | none => exact ⟨fun _ => rfl, fun _ => rfl⟩
  | some er => exact ⟨fun h => absurd h (errF_ne e), fun h => by cases h⟩
theorem checkAt_ok {F : Flds} (_h : errF 0 F = none) (hS : SmallF F) (hl : F.length ≤ 24) : CheckAt F := checkAt_any hS hl
end Go.Proofs.YtjndfmpicnkplaaGreatDoor.msgw
namespace Go.Proofs.YtjndfmpicnkplaaGreatDoor.msgw
open Go.RowKit
open Go.Proofs.YtjndfmpicnkplaaGreatDoor.msgp
open Go.Proofs.YtjndfmpicnkplaaGreatDoor.buf
open Go.Proofs.YtjndfmpicnkplaaGreatDoor.fieldp
open Go.Proofs.YtjndfmpicnkplaaGreatDoor.fieldw
def exCode : ByteArray := ⟨#[49, 49]⟩
def exWhen : ByteArray := ⟨#[48, 49, 48, 49, 48, 48, 48, 48, 48, 48]⟩
def exStan : ByteArray := ⟨#[48, 48, 48, 48, 48, 49]⟩
def exT : Five := (1, 0, 5, 0, 5)
def exM : Flds := [(7, exWhen), (11, exStan), (32, exCode), (74, ⟨#[48, 48, 48, 48, 48, 48, 48, 48, 48, 49]⟩), (76, ⟨#[48, 48, 48, 48, 48, 48, 48, 48, 48, 48]⟩), (86, ⟨#[48, 48, 48, 48, 48, 48, 48, 48, 48, 48, 48, 48, 48, 48, 48, 53]⟩), (88, ⟨#[48, 48, 48, 48, 48, 48, 48, 48, 48, 48, 48, 48, 48, 48, 48, 48]⟩), (97, ⟨#[67, 48, 48, 48, 48, 48, 48, 48, 48, 48, 48, 48, 48, 48, 48, 48, 53]⟩)]
def exL : List Tot := [(0, 0, 0, 0, 0, 0), (1, 1, 0, 5, 0, 5)]
theorem ex_ask : askF exCode exWhen exStan exT = some exM := by kernel_rfl
theorem ex_err : errF 0 exM = none := by kernel_rfl
theorem ex_small : SmallF exM := by
  intro x hx
  simp only [exM, List.mem_cons, List.not_mem_nil, or_false] at hx
  rcases hx with rfl | rfl | rfl | rfl | rfl | rfl | rfl | rfl <;> decide
theorem ex_askR : askR exCode exWhen exStan exT = some exM := by unfold askR; rw [ex_ask, Option.bind_some, if_pos ex_err]
theorem ex_one : ansOf 500 exM 1 true exL = ⟨#[48, 48]⟩ := by kernel_rfl
theorem ex_two : ansOf 500 exM 0 true exL = ⟨#[57, 53]⟩ := by kernel_rfl
/-- A field, if there is one. -/
def opt1 (F : Flds) (no : Int) : Flds := match getM F no with
  | none => []
  | some s => [(no, s)]
theorem answer_eq (ty : Int) (F : Flds) (m : Int) (closed : Bool) (L : List Tot) : answerM ty F m closed L = opt1 F 7 ++ (opt1 F 11 ++ (opt1 F 32 ++ [(39, ansOf ty F m closed L)])) := by
  unfold answerM
  obtain ⟨a, ea⟩ : ∃ a, ansOf ty F m closed L = a := ⟨_, rfl⟩
  rw [ea]
  unfold opt1
  cases h7 : getM F 7 <;> cases h11 : getM F 11 <;> cases h32 : getM F 32 <;> simp only [copyM, List.foldl, h7, h11, h32] <;> rfl
theorem answer_code (ty : Int) (F : Flds) (m : Int) (closed : Bool) (L : List Tot) : getM (answerM ty F m closed L) 39 = some (ansOf ty F m closed L) := by
  rw [answer_eq]
  unfold opt1
  cases h7 : getM F 7 <;> cases h11 : getM F 11 <;> cases h32 : getM F 32 <;> rfl
theorem answer_get (ty : Int) (F : Flds) (m : Int) (closed : Bool) (L : List Tot) (no : Int) (h : no = 7 ∨ no = 11 ∨ no = 32) : getM (answerM ty F m closed L) no = getM F no := by
  rw [answer_eq]
  unfold opt1
  rcases h with rfl | rfl | rfl <;> cases h7 : getM F 7 <;> cases h11 : getM F 11 <;> cases h32 : getM F 32 <;> rfl
theorem ans_cases (ty : Int) (F : Flds) (m : Int) (closed : Bool) (L : List Tot) : ansOf ty F m closed L = ⟨#[48, 48]⟩ ∨ ansOf ty F m closed L = ⟨#[57, 53]⟩ ∨ ansOf ty F m closed L = ⟨#[51, 48]⟩ := by
  unfold ansOf
  split
  · exact .inr (.inr rfl)
  · split
    · exact .inl rfl
    · exact .inr (.inl rfl)
theorem opt1_small {F : Flds} (h : SmallF F) (no : Int) : SmallF (opt1 F no) := by
  unfold opt1
  have h2 := getM_small h no
  cases e : getM F no with
  | none => exact fun x hx => absurd hx (by simp)
  | some s =>
    intro x hx
    obtain rfl := List.mem_singleton.1 hx
    rw [e] at h2
    exact h2
theorem answer_small (ty : Int) {F : Flds} (h : SmallF F) (m : Int) (closed : Bool) (L : List Tot) : SmallF (answerM ty F m closed L) := by
  rw [answer_eq]
  intro x hx
  rcases List.mem_append.1 hx with hx | hx
  · exact opt1_small h 7 x hx
  rcases List.mem_append.1 hx with hx | hx
  · exact opt1_small h 11 x hx
  rcases List.mem_append.1 hx with hx | hx
  · exact opt1_small h 32 x hx
  · obtain rfl := List.mem_singleton.1 hx
    rcases ans_cases ty F m closed L with e | e | e <;> rw [e] <;> decide
def one (F : Flds) (no : Int) : Nat := if (getM F no).isSome then 1 else 0
theorem answer_len (ty : Int) (F : Flds) (m : Int) (closed : Bool) (L : List Tot) : (answerM ty F m closed L).length = 1 + one F 7 + one F 11 + one F 32 := by
  rw [answer_eq]
  unfold opt1 one
  cases h7 : getM F 7 <;> cases h11 : getM F 11 <;> cases h32 : getM F 32 <;> rfl
end Go.Proofs.YtjndfmpicnkplaaGreatDoor.msgw
namespace Go.Proofs.YtjndfmpicnkplaaGreatDoor.msgw
open Go.RowKit
open Go.Proofs.YtjndfmpicnkplaaGreatDoor.msgp
open Go.Proofs.YtjndfmpicnkplaaGreatDoor.buf
open Go.Proofs.YtjndfmpicnkplaaGreatDoor.fieldp
open Go.Proofs.YtjndfmpicnkplaaGreatDoor.fieldw
theorem okI_small {n : Int} (h : -100 ≤ n ∧ n ≤ 100) : okI n := by unfold okI; omega
theorem ask_ex {w : World} (hT : Tabs w) : Calls Tryz.prog 6 #[.string exCode, .string exWhen, .string exStan, .agg #[.int .i64 1, .int .i64 1, .int .i64 0, .int .i64 5, .int .i64 0, .int .i64 5]] w fun e w' =>
    ∃ g cap, e = .returned (.tuple #[.agg #[.int .i64 500, .slice (some ⟨g, 0, none⟩) 8 cap], .int .i64 0]) ∧ FsAt w' (.slice (some ⟨g, 0, none⟩) 8 cap) exM ∧ Below w.heap.size w w' :=
  (ask_any hT exCode exWhen exStan 1 exT (okI_small (by decide)) (okI_small (by decide)) (okI_small (by decide)) (okI_small (by decide)) (okI_small (by decide)) (fun F h => by
    rw [ex_ask] at h
    obtain rfl := Option.some.inj h
    exact checkAt_ok ex_err ex_small (by decide))).mono fun e w' h => by
    rw [ex_askR] at h
    rcases h with ⟨h, _⟩ | ⟨F, v, h, rfl, hB, b⟩
    · exact absurd h (by simp)
    · obtain rfl := Option.some.inj h
      have hf := hB.fs (show exM.length ≤ maxLen by decide)
      obtain ⟨p, c, rfl⟩ := hf.shape
      obtain ⟨g, o, rfl, _⟩ := hf.get 0 (by decide)
      obtain ⟨cap, rfl, ho⟩ : ∃ cap, c = cap ∧ o = 0 := by
        obtain ⟨⟨_, ⟨h2, _⟩ | ⟨g', cap, cur, h3, _⟩⟩, _⟩ := hB
        · exact absurd h2 (by decide)
        · simp only [Value.slice.injEq, Option.some.injEq, Addr.mk.injEq] at h3
          exact ⟨_, rfl, h3.1.2.1⟩
      subst ho
      exact ⟨g, c, rfl, hf, b⟩
theorem answer_ex {w : World} {v vl : Value} (h : FsAt w v exM) (hT : Tabs w) (hL : TotsAt w vl exL) (m : Int) (s : ByteArray) (hs : ansOf 500 exM m true exL = s) :
    Calls Tryz.prog 11 #[.agg #[.int .i64 500, v], .int .i64 m, .agg #[.int .i64 1, vl], .bool true] w fun e w' => ∃ g cap F, e = .returned (.agg #[.int .i64 510, .slice (some ⟨g, 0, none⟩) 4 cap]) ∧ FsAt w' (.slice (some ⟨g, 0, none⟩) 4 cap) F ∧ SmallF F ∧ getM F 39 = some s ∧ Below w.heap.size w w' :=
  (answer_any h hT ex_small hL 500 m 1 true).mono fun e w' h => by
    obtain ⟨v', rfl, hB, b⟩ := h
    have e1 := answer_code 500 exM m true exL
    have e2 := answer_len 500 exM m true exL
    have e4 := answer_small 500 ex_small m true exL
    rw [hs] at e1
    obtain ⟨F, eF⟩ : ∃ F, answerM 500 exM m true exL = F := ⟨_, rfl⟩
    rw [eF] at e1 e2 e4 hB
    have e3 : F.length = 4 := e2.trans (by decide)
    have hf := hB.fs (by rw [e3]; decide)
    obtain ⟨p, c, rfl⟩ := hf.shape
    obtain ⟨g, o, rfl, _⟩ := hf.get 0 (by rw [e3]; decide)
    have ho : o = 0 := by
      obtain ⟨⟨_, ⟨h2, _⟩ | ⟨g', cap, cur, h3, _⟩⟩, _⟩ := hB
      · exact absurd h2 (by rw [e3]; decide)
      · simp only [Value.slice.injEq, Option.some.injEq, Addr.mk.injEq] at h3
        exact h3.1.2.1
    subst ho
    rw [e3] at hf ⊢
    exact ⟨g, c, F, rfl, hf, e4, e1, b⟩
/-- A message's own row. -/
def MsgIn (w : World) (b : Nat) (ty : Int) (v : Value) : Prop := w.cell? ⟨b, 0, none⟩ = some (.int .i64 ty) ∧ w.cell? ⟨b, 1, none⟩ = some v
theorem MsgIn.below {w w' : World} {b : Nat} {ty : Int} {v : Value} (h : MsgIn w b ty v) (hb : Below w.heap.size w w') : MsgIn w' b ty v := ⟨hb.keptCell h.1, hb.keptCell h.2⟩
theorem msgIn_new (w : World) (ty : Int) (v : Value) : MsgIn (w.alloc (.cells #[.int .i64 ty, v] 29)) w.heap.size ty v :=
  ⟨(cells_at (heap_alloc_last w _) 0).trans rfl, (cells_at (heap_alloc_last w _) 1).trans rfl⟩
theorem tots_ex (w : World) (k : Nat) (hk : w.heap.size = k) : TotsAt (w.alloc (.cells #[.int .i64 0, .int .i64 0, .int .i64 0, .int .i64 0, .int .i64 0, .int .i64 0, .int .i64 1, .int .i64 1, .int .i64 0, .int .i64 5, .int .i64 0, .int .i64 5] 23)) (.slice (some ⟨k, 0, none⟩) 2 2) exL := by
  subst hk
  refine ⟨by decide, _, _, rfl, fun i hi => ⟨w.heap.size, 0, rfl, ?_⟩⟩
  have k0 := heap_alloc_last w (.cells #[.int .i64 0, .int .i64 0, .int .i64 0, .int .i64 0, .int .i64 0, .int .i64 0, .int .i64 1, .int .i64 1, .int .i64 0, .int .i64 5, .int .i64 0, .int .i64 5] 23)
  have hi' : i < 2 := hi
  obtain rfl | rfl : i = 0 ∨ i = 1 := by omega
  · exact ⟨(cells_at k0 _).trans rfl, (cells_at k0 _).trans rfl, (cells_at k0 _).trans rfl, (cells_at k0 _).trans rfl, (cells_at k0 _).trans rfl, (cells_at k0 _).trans rfl⟩
  · exact ⟨(cells_at k0 _).trans rfl, (cells_at k0 _).trans rfl, (cells_at k0 _).trans rfl, (cells_at k0 _).trans rfl, (cells_at k0 _).trans rfl, (cells_at k0 _).trans rfl⟩
theorem alloc_below (w : World) (o : Obj) : Below w.heap.size w (w.alloc o) := (Below.refl _ _).alloc (Nat.le_refl _) _
theorem rget_is {w : World} {v : Value} {F : Flds} (h : FsAt w v F) (ty no : Int) (s : ByteArray) (hs : getM F no = some s) : Calls Tryz.prog 13 #[.agg #[.int .i64 ty, v], .int .i64 no] w fun e w' => e = .returned (.tuple #[.string s, .bool true]) ∧ Below w.heap.size w w' :=
  (rget_any h ty no).mono fun e w' h => by rw [hs] at h; exact h
theorem read_no {w : World} {v : Value} {F : Flds} (h : FsAt w v F) (hT : Tabs w) (hS : SmallF F) : Calls Tryz.prog 9 #[.agg #[.int .i64 510, v]] w fun e w' => e = .returned (.tuple #[.agg #[.int .i64 0, .int .i64 0, .int .i64 0, .int .i64 0, .int .i64 0, .int .i64 0], .int .i64 51]) ∧ Below w.heap.size w w' :=
  (read_any h hT hS 510).mono fun e w' h => by
    rw [show readR 510 F = ([0, 0, 0, 0, 0], 51) from if_pos (by decide)] at h
    exact h
set_option maxHeartbeats 4000000 in
set_option maxRecDepth 100000 in
theorem shown_any {w : World} (hT : Tabs w) : Calls Tryz.prog 5 #[] w fun e w' => e = .returned (.bool true) ∧ Below w.heap.size w w' := by
  have b0 : Below w.heap.size w (w.alloc (.cells #[.int .i64 1, .int .i64 1, .int .i64 0, .int .i64 5, .int .i64 0, .int .i64 5] 23)) := alloc_below _ _
  have HC := Lib.hid (ask_ex (hT.below b0))
  have HT := Lib.hid (hT.below b0)
  have HB0 := Lib.hid b0
  have k0 := heap_alloc_last w (.cells #[.int .i64 1, .int .i64 1, .int .i64 0, .int .i64 5, .int .i64 0, .int .i64 5] 23)
  have HX := Lib.hid (show TotIn (w.alloc (.cells #[.int .i64 1, .int .i64 1, .int .i64 0, .int .i64 5, .int .i64 0, .int .i64 5] 23)) w.heap.size 0 (1, 1, 0, 5, 0, 5) from
    ⟨(cells_at k0 0).trans rfl, (cells_at k0 1).trans rfl, (cells_at k0 2).trans rfl, (cells_at k0 3).trans rfl, (cells_at k0 4).trans rfl, (cells_at k0 5).trans rfl⟩)
  clear b0 hT k0
  go_enter Tryz.func5, Tryz.ntmps5
  go_wp2_with fail
  refine HC.out.mono ?_
  rintro e w1 ⟨g, cap, rfl, hF, b1⟩
  have b2 : Below w1.heap.size w1 (w1.alloc (.cells #[.int .i64 500, .slice (some ⟨g, 0, none⟩) 8 cap] 29)) := alloc_below _ _
  have q : (w1.alloc (.cells #[.int .i64 500, .slice (some ⟨g, 0, none⟩) 8 cap] 29)).cell? ⟨g, 15, none⟩ = some (.string ⟨#[67, 48, 48, 48, 48, 48, 48, 48, 48, 48, 48, 48, 48, 48, 48, 48, 53]⟩) := by
    obtain ⟨b, o, h1, _, h3⟩ := (hF.below b2).get 7 (by decide)
    simp only [Option.some.injEq, Addr.mk.injEq, and_true] at h1
    obtain ⟨rfl, rfl⟩ := h1
    exact h3
  have HX1 := Lib.hid ((HX.out.below b1).below b2)
  obtain ⟨x0, x1, x2, x3, x4, x5⟩ := (HX.out.below b1).below b2
  simp only [Nat.zero_add] at x0 x1 x2 x3 x4 x5
  have b3 : Below (w1.alloc (.cells #[.int .i64 500, .slice (some ⟨g, 0, none⟩) 8 cap] 29)).heap.size (w1.alloc (.cells #[.int .i64 500, .slice (some ⟨g, 0, none⟩) 8 cap] 29)) ((w1.alloc (.cells #[.int .i64 500, .slice (some ⟨g, 0, none⟩) 8 cap] 29)).alloc (.cells #[.int .i64 0, .int .i64 0, .int .i64 0, .int .i64 0, .int .i64 0, .int .i64 0, .int .i64 1, .int .i64 1, .int .i64 0, .int .i64 5, .int .i64 0, .int .i64 5] 23)) := alloc_below _ _
  have HM1 := Lib.hid ((msgIn_new w1 500 (.slice (some ⟨g, 0, none⟩) 8 cap)).below b3)
  have HF := Lib.hid ((hF.below b2).below b3)
  have HX2 := Lib.hid (((HX.out.below b1).below b2).below b3)
  have b4 := HB0.out.trans ((b1.trans (b2.mono b1.size)).mono HB0.out.size)
  have HB1 := Lib.hid (b4.trans (b3.mono b4.size))
  have HT1 := Lib.hid (((HT.out.below b1).below b2).below b3)
  have HL := Lib.hid (tots_ex (w1.alloc (.cells #[.int .i64 500, .slice (some ⟨g, 0, none⟩) 8 cap] 29)) (w1.heap.size + 1) (by simp))
  clear HC hF b1 b2 b3 b4 HT HB0 HX
  go_wp2_with fail
  refine (answer_ex HF.out HT1.out HL.out 1 _ ex_one).mono ?_
  rintro e w2 ⟨g4, c4, F4, rfl, hA, hAS, hA39, c1⟩
  clear q x0 x1 x2 x3 x4 x5 HX1
  have c2 : Below w2.heap.size w2 (w2.alloc (.cells #[.int .i64 510, .slice (some ⟨g4, 0, none⟩) 4 c4] 29)) := alloc_below _ _
  obtain ⟨m0, m1⟩ := (HM1.out.below c1).below c2
  obtain ⟨x0, x1, x2, x3, x4, x5⟩ := (HX2.out.below c1).below c2
  simp only [Nat.zero_add] at x0 x1 x2 x3 x4 x5
  have c3 : Below (w2.alloc (.cells #[.int .i64 510, .slice (some ⟨g4, 0, none⟩) 4 c4] 29)).heap.size (w2.alloc (.cells #[.int .i64 510, .slice (some ⟨g4, 0, none⟩) 4 c4] 29)) ((w2.alloc (.cells #[.int .i64 510, .slice (some ⟨g4, 0, none⟩) 4 c4] 29)).alloc (.cells #[.int .i64 0, .int .i64 0, .int .i64 0, .int .i64 0, .int .i64 0, .int .i64 0, .int .i64 1, .int .i64 1, .int .i64 0, .int .i64 5, .int .i64 0, .int .i64 5] 23)) := alloc_below _ _
  have HM4 := Lib.hid ((msgIn_new w2 510 (.slice (some ⟨g4, 0, none⟩) 4 c4)).below c3)
  have HA := Lib.hid ((hA.below c2).below c3)
  have HFB := Lib.hid (((HF.out.below c1).below c2).below c3)
  have HTB := Lib.hid (((HT1.out.below c1).below c2).below c3)
  have c4' := HB1.out.trans ((c1.trans (c2.mono c1.size)).mono HB1.out.size)
  have HB2 := Lib.hid (c4'.trans (c3.mono c4'.size))
  have HLB := Lib.hid (tots_ex (w2.alloc (.cells #[.int .i64 510, .slice (some ⟨g4, 0, none⟩) 4 c4] 29)) (w2.heap.size + 1) (by simp))
  clear hA c1 c2 c3 c4' HF HT1 HB1 HL HX2 HM1
  go_wp2_with fail
  refine (answer_ex HFB.out HTB.out HLB.out 0 _ ex_two).mono ?_
  rintro e w3 ⟨g5, c5, F5, rfl, hA5, hAS5, hA539, d1⟩
  clear x0 x1 x2 x3 x4 x5 m0 m1
  have d2 : Below w3.heap.size w3 (w3.alloc (.cells #[.int .i64 510, .slice (some ⟨g5, 0, none⟩) 4 c5] 29)) := alloc_below _ _
  have HM4B := Lib.hid ((HM4.out.below d1).below d2)
  obtain ⟨m0, m1⟩ := HM4B.out
  have HM5 := Lib.hid (msgIn_new w3 510 (.slice (some ⟨g5, 0, none⟩) 4 c5))
  have HA4 := Lib.hid ((HA.out.below d1).below d2)
  have HA5 := Lib.hid (hA5.below d2)
  have HT3 := Lib.hid ((HTB.out.below d1).below d2)
  have HB3 := Lib.hid (HB2.out.trans ((d1.trans (d2.mono d1.size)).mono HB2.out.size))
  clear hA5 d1 d2 HA HTB HB2 HFB HLB HM4
  go_wp2_with fail
  refine (rget_is HA4.out 510 39 _ hA39).mono ?_
  rintro e w4 ⟨rfl, e1⟩
  have HM4C := Lib.hid (HM4B.out.below e1)
  obtain ⟨n0, n1⟩ := HM5.out.below e1
  have HA4C := Lib.hid (HA4.out.below e1)
  have HA5C := Lib.hid (HA5.out.below e1)
  have HT4 := Lib.hid (HT3.out.below e1)
  have HB4 := Lib.hid (HB3.out.trans (e1.mono HB3.out.size))
  clear m0 m1 e1 HM4B HM5 HA4 HA5 HT3 HB3
  go_wp2_with fail
  refine (rget_is HA5C.out 510 39 _ hA539).mono ?_
  rintro e w5 ⟨rfl, e1⟩
  have HM4D := Lib.hid (HM4C.out.below e1)
  obtain ⟨m0, m1⟩ := HM4D.out
  have HA4D := Lib.hid (HA4C.out.below e1)
  have HT5 := Lib.hid (HT4.out.below e1)
  have HB5 := Lib.hid (HB4.out.trans (e1.mono HB4.out.size))
  clear n0 n1 e1 HM4C HA4C HA5C HT4 HB4
  go_wp2_with fail
  refine (read_no HA4D.out HT5.out hAS).mono ?_
  rintro e w6 ⟨rfl, e1⟩
  have e2 : Below w6.heap.size w6 (w6.alloc (.cells #[.int .i64 0, .int .i64 0, .int .i64 0, .int .i64 0, .int .i64 0, .int .i64 0] 23)) := alloc_below _ _
  have e3 : Below w5.heap.size w5 (w6.alloc (.cells #[.int .i64 0, .int .i64 0, .int .i64 0, .int .i64 0, .int .i64 0, .int .i64 0] 23)) := e1.trans (e2.mono e1.size)
  obtain ⟨n0, n1⟩ := HM4D.out.below e3
  have HB6 := Lib.hid (HB5.out.trans (e3.mono HB5.out.size))
  clear m0 m1 e1 e2 e3 HM4D HA4D HT5 HB5
  go_wp2_with fail
  go_ret
  exact ⟨rfl, HB6.out⟩
end Go.Proofs.YtjndfmpicnkplaaGreatDoor.msgw
namespace Go.Proofs.YtjndfmpicnkplaaGreatDoor.msgw
open Go.RowKit
open Go.Proofs.YtjndfmpicnkplaaGreatDoor.msgp
open Go.Proofs.YtjndfmpicnkplaaGreatDoor.buf
open Go.Proofs.YtjndfmpicnkplaaGreatDoor.fieldp
open Go.Proofs.YtjndfmpicnkplaaGreatDoor.fieldw
open Go.Proofs.YtjndfmpicnkplaaGreatDoor.fieldl
theorem dig_is {n : Int} {k : Nat} (_hk : 1 ≤ k ∧ k ≤ 18) (h : (digitsR n k).2 = 0) : 0 ≤ n ∧ n.toNat < 10 ^ k ∧ (digitsR n k).1 = ⟨(digL n.toNat k).toArray⟩ := by
  unfold digitsR at h ⊢
  split at h
  · cases h
  · rename_i h1
    split at h
    · cases h
    · rename_i h2
      rw [if_neg h1, if_neg h2]
      have h3 : ¬ (10 : Int) ^ k ≤ n := fun hc => h2 (.inr (by simpa using hc))
      refine ⟨by omega, ?_, by simp⟩
      have : ((10 ^ k : Nat) : Int) = (10 : Int) ^ k := by simp
      omega
theorem ext_all (l : List UInt8) (k : Nat) (hk : l.length = k) (a : List UInt8) : (ByteArray.extract ⟨(a ++ l).toArray⟩ a.length (a.length + k)).data.toList = l := by
  rw [ByteArray.data_extract]
  simp [List.take_of_length_le, hk]
theorem val_dig {n : Int} {k : Nat} (hk : 1 ≤ k ∧ k ≤ 18) (h : (digitsR n k).2 = 0) : valOf k (digitsR n k).1 = n := by
  obtain ⟨h0, h1, h2⟩ := dig_is hk h
  have hl := digL_length n.toNat k
  have e1 : (⟨(digL n.toNat k).toArray⟩ : ByteArray).size = k := by show (digL n.toNat k).toArray.size = k; simpa using hl
  have e2 := ext_all (digL n.toNat k) k hl []
  simp only [List.nil_append, List.length_nil, Nat.zero_add] at e2
  rw [h2]
  unfold valOf
  rw [e1, show ((k : Int) - k).toNat = 0 by omega, e2, if_neg, amount_digL hk.1 hk.2 h1]
  · show ((n.toNat : Nat) : Int) = n
    omega
  · intro hc
    have hm : (68 : UInt8) ∈ digL n.toNat k := List.mem_of_mem_head? hc
    have := digL_dig _ _ _ hm
    revert this
    unfold isDig
    decide
theorem val_signed {n : Int} (hn : okI n) (h : (signedR n 16).2 = 0) : valOf 16 (signedR n 16).1 = n := by
  unfold okI at hn
  unfold signedR at h ⊢
  by_cases h0 : n < 0
  · rw [if_pos h0] at h ⊢
    have h' : (digitsR (wrap64 (-n)) (16 : Nat)).2 = 0 := h
    obtain ⟨g0, g1, g2⟩ := dig_is (by decide) h'
    have hm : wrap64 (-n) = -n := by
      unfold wrap64 at g0 ⊢
      omega
    rw [hm] at g0 g1 g2
    show valOf 16 (⟨#[68]⟩ ++ (digitsR (wrap64 (-n)) (16 : Nat)).1) = n
    rw [hm, g2]
    have hl := digL_length (-n).toNat 16
    have e0 : ((⟨#[68]⟩ : ByteArray) ++ ⟨(digL (-n).toNat 16).toArray⟩) = ⟨([68] ++ digL (-n).toNat 16).toArray⟩ := by
      apply ByteArray.ext
      simp
    have e1 : (⟨([68] ++ digL (-n).toNat 16).toArray⟩ : ByteArray).size = 17 := by show ([68] ++ digL (-n).toNat 16).toArray.size = 17; simp [hl]
    have e2 : (ByteArray.extract ⟨([68] ++ digL (-n).toNat 16).toArray⟩ 1 17).data.toList = digL (-n).toNat 16 := ext_all (digL (-n).toNat 16) 16 hl [68]
    rw [e0]
    unfold valOf
    rw [e1, show ((17 : Nat) : Int) - 16 = ((1 : Nat) : Int) from rfl, Int.toNat_natCast, if_pos (by rfl)]
    rw [e2, amount_digL (by decide) (by decide) g1]
    show -(((-n).toNat : Nat) : Int) = n
    omega
  · rw [if_neg h0] at h ⊢
    have h' : (digitsR n (16 : Nat)).2 = 0 := h
    obtain ⟨g0, g1, g2⟩ := dig_is (by decide) h'
    show valOf 16 (⟨#[67]⟩ ++ (digitsR n (16 : Nat)).1) = n
    rw [g2]
    have hl := digL_length n.toNat 16
    have e0 : ((⟨#[67]⟩ : ByteArray) ++ ⟨(digL n.toNat 16).toArray⟩) = ⟨([67] ++ digL n.toNat 16).toArray⟩ := by
      apply ByteArray.ext
      simp
    have e1 : (⟨([67] ++ digL n.toNat 16).toArray⟩ : ByteArray).size = 17 := by show ([67] ++ digL n.toNat 16).toArray.size = 17; simp [hl]
    have e2 : (ByteArray.extract ⟨([67] ++ digL n.toNat 16).toArray⟩ 1 17).data.toList = digL n.toNat 16 := ext_all (digL n.toNat 16) 16 hl [67]
    rw [e0]
    unfold valOf
    have hh : ¬ (⟨([67] ++ digL n.toNat 16).toArray⟩ : ByteArray).data.toList.head? = some 68 := by
      show ¬ some (67 : UInt8) = some 68
      decide
    rw [e1, show ((17 : Nat) : Int) - 16 = ((1 : Nat) : Int) from rfl, Int.toNat_natCast, if_neg hh]
    rw [e2, amount_digL (by decide) (by decide) g1]
    show ((n.toNat : Nat) : Int) = n
    omega
theorem errF_cons {last : Int} {x : Fld} {r : Flds} (h : errF last (x :: r) = none) : ∃ k s, formF x.1 0 = some (k, s) ∧ last < x.1 ∧ checkR k s 1 x.2.data.toList = 0 ∧ errF x.1 r = none := by
  unfold errF at h
  split at h
  · cases h
  · rename_i k s e
    split at h
    · cases h
    · rename_i h1
      split at h
      · rename_i h2
        exact ⟨k, s, e, by omega, h2, h⟩
      · cases h
/-- The fields of a statement that is right. -/
theorem ask_list {code when stan : ByteArray} {t : Five} {F : Flds} (h : askF code when stan t = some F) :
    (digitsR t.1 10).2 = 0 ∧ (digitsR t.2.1 10).2 = 0 ∧ (digitsR t.2.2.1 16).2 = 0 ∧ (digitsR t.2.2.2.1 16).2 = 0 ∧ (signedR t.2.2.2.2 16).2 = 0 ∧
    F = [(7, when), (11, stan), (32, code), (74, (digitsR t.1 10).1), (76, (digitsR t.2.1 10).1), (86, (digitsR t.2.2.1 16).1), (88, (digitsR t.2.2.2.1 16).1), (97, (signedR t.2.2.2.2 16).1)] := by
  unfold askF items at h
  simp only [digF] at h
  obtain ⟨⟨a1, z1⟩, e1⟩ : ∃ r, digitsR t.1 10 = r := ⟨_, rfl⟩
  obtain ⟨⟨a2, z2⟩, e2⟩ : ∃ r, digitsR t.2.1 10 = r := ⟨_, rfl⟩
  obtain ⟨⟨a3, z3⟩, e3⟩ : ∃ r, digitsR t.2.2.1 16 = r := ⟨_, rfl⟩
  obtain ⟨⟨a4, z4⟩, e4⟩ : ∃ r, digitsR t.2.2.2.1 16 = r := ⟨_, rfl⟩
  obtain ⟨⟨a5, z5⟩, e5⟩ : ∃ r, signedR t.2.2.2.2 16 = r := ⟨_, rfl⟩
  rw [e1, e2, e3, e4, e5] at h
  rw [e1, e2, e3, e4, e5]
  clear e1 e2 e3 e4 e5
  dsimp only at h ⊢
  by_cases h1 : z1 = 0
  · rw [if_pos h1] at h
    by_cases h2 : z2 = 0
    · rw [if_pos h2] at h
      by_cases h3 : z3 = 0
      · rw [if_pos h3] at h
        by_cases h4 : z4 = 0
        · rw [if_pos h4, Option.bind_some] at h
          by_cases h5 : z5 = 0
          · rw [if_pos h5] at h
            refine ⟨h1, h2, h3, h4, h5, (Option.some.inj h).symm.trans ?_⟩
            kernel_rfl
          · rw [if_neg h5] at h; cases h
        · rw [if_neg h4] at h; cases h
      · rw [if_neg h3] at h; cases h
    · rw [if_neg h2] at h; cases h
  · rw [if_neg h1] at h; cases h
theorem ask_read {code when stan : ByteArray} {t : Five} {F : Flds} (h5 : okI t.2.2.2.2) (h : askR code when stan t = some F) : readR 500 F = ([t.1, t.2.1, t.2.2.1, t.2.2.2.1, t.2.2.2.2], 0) := by
  unfold askR at h
  cases e : askF code when stan t with
  | none => rw [e] at h; cases h
  | some G =>
    rw [e, Option.bind_some] at h
    split at h
    · rename_i he
      obtain rfl := Option.some.inj h
      obtain ⟨g1, g2, g3, g4, g5, hG⟩ := ask_list e
      have v1 := val_dig (k := 10) (by decide) g1
      have v2 := val_dig (k := 10) (by decide) g2
      have v3 := val_dig (k := 16) (by decide) g3
      have v4 := val_dig (k := 16) (by decide) g4
      have v5 := val_signed h5 g5
      obtain ⟨d1, ed1⟩ : ∃ d, (digitsR t.1 10).1 = d := ⟨_, rfl⟩
      obtain ⟨d2, ed2⟩ : ∃ d, (digitsR t.2.1 10).1 = d := ⟨_, rfl⟩
      obtain ⟨d3, ed3⟩ : ∃ d, (digitsR t.2.2.1 16).1 = d := ⟨_, rfl⟩
      obtain ⟨d4, ed4⟩ : ∃ d, (digitsR t.2.2.2.1 16).1 = d := ⟨_, rfl⟩
      obtain ⟨d5, ed5⟩ : ∃ d, (signedR t.2.2.2.2 16).1 = d := ⟨_, rfl⟩
      rw [ed1, ed2, ed3, ed4, ed5] at hG
      replace v1 : valOf 10 d1 = t.1 := by rw [← ed1]; exact v1
      replace v2 : valOf 10 d2 = t.2.1 := by rw [← ed2]; exact v2
      replace v3 : valOf 16 d3 = t.2.2.1 := by rw [← ed3]; exact v3
      replace v4 : valOf 16 d4 = t.2.2.2.1 := by rw [← ed4]; exact v4
      replace v5 : valOf 16 d5 = t.2.2.2.2 := by rw [← ed5]; exact v5
      clear ed1 ed2 ed3 ed4 ed5 e h
      have hc : copyM G readNos [] = G := by rw [hG]; kernel_rfl
      have hn : G.length = 8 := by rw [hG]; rfl
      have m1 : getM G 74 = some d1 := by rw [hG]; kernel_rfl
      have m2 : getM G 76 = some d2 := by rw [hG]; kernel_rfl
      have m3 : getM G 86 = some d3 := by rw [hG]; kernel_rfl
      have m4 : getM G 88 = some d4 := by rw [hG]; kernel_rfl
      have m5 : getM G 97 = some d5 := by rw [hG]; kernel_rfl
      rw [hG] at he
      obtain ⟨_, _, _, _, _, he⟩ := errF_cons he
      obtain ⟨_, _, _, _, _, he⟩ := errF_cons he
      obtain ⟨_, _, _, _, _, he⟩ := errF_cons he
      obtain ⟨k1, s1, f1, _, c1, he⟩ := errF_cons he
      obtain ⟨k2, s2, f2, _, c2, he⟩ := errF_cons he
      obtain ⟨k3, s3, f3, _, c3, he⟩ := errF_cons he
      obtain ⟨k4, s4, f4, _, c4, he⟩ := errF_cons he
      obtain ⟨k5, s5, f5, _, c5, he⟩ := errF_cons he
      cases (show formF 74 0 = some (1, 10) by rfl).symm.trans f1
      cases (show formF 76 0 = some (1, 10) by rfl).symm.trans f2
      cases (show formF 86 0 = some (1, 16) by rfl).symm.trans f3
      cases (show formF 88 0 = some (1, 16) by rfl).symm.trans f4
      cases (show formF 97 0 = some (5, 16) by rfl).symm.trans f5
      clear hG
      unfold readR
      rw [if_neg (by decide), hc, if_neg (by omega)]
      have hr : readL G tail5 = some [t.1, t.2.1, t.2.2.1, t.2.2.2.1, t.2.2.2.2] := by
        unfold tail5
        simp only [readL, m1, m2, m3, m4, m5, Option.getD_some]
        rw [if_pos c1, if_pos c2, if_pos c3, if_pos c4, if_pos c5, v1, v2, v3, v4, v5]
        rfl
      rw [hr]
    · cases h
/-- Is a member's total in the book just this? -/
def balB (L : List Tot) (m : Int) (t : Five) : Bool := match L[totAt L m]? with
  | none => false
  | some x => decide (x.2 = t)
theorem hit_bal (L : List Tot) (m : Int) (t : Five) : hitB L (m, t) = balB L m t := by
  unfold hitB balB
  show (match L[totAt L m]? with | none => false | some x => decide (x = (m, t))) = _
  cases e : L[totAt L m]? with
  | none => rfl
  | some x =>
    have hx : x.1 = m := by
      obtain ⟨hi, rfl⟩ := List.getElem?_eq_some_iff.1 e
      have := List.findIdx_getElem (p := fun x : Tot => decide (x.1 = m)) (w := hi)
      exact of_decide_eq_true this
    obtain ⟨a, b⟩ := x
    obtain rfl : a = m := hx
    simp
theorem ans_true {F : Flds} {t : Five} (h : readR 500 F = ([t.1, t.2.1, t.2.2.1, t.2.2.2.1, t.2.2.2.2], 0)) (L : List Tot) (m : Int) : ansOf 500 F m true L = if balB L m t then ⟨#[48, 48]⟩ else ⟨#[57, 53]⟩ := by
  unfold ansOf
  rw [h, if_neg (by simp), Bool.true_and, show totOf m [t.1, t.2.1, t.2.2.1, t.2.2.2.1, t.2.2.2.2] = (m, t) from rfl, hit_bal]
theorem ans_false {F : Flds} {t : Five} (h : readR 500 F = ([t.1, t.2.1, t.2.2.1, t.2.2.2.1, t.2.2.2.2], 0)) (L : List Tot) (m : Int) : ansOf 500 F m false L = ⟨#[57, 53]⟩ := by
  unfold ansOf
  rw [h, if_neg (by simp), Bool.false_and]
  rfl
end Go.Proofs.YtjndfmpicnkplaaGreatDoor.msgw
namespace Go.Proofs.YtjndfmpicnkplaaGreatDoor.msgw
open Go.RowKit
open Go.Proofs.YtjndfmpicnkplaaGreatDoor.msgp
open Go.Proofs.YtjndfmpicnkplaaGreatDoor.buf
open Go.Proofs.YtjndfmpicnkplaaGreatDoor.fieldp
open Go.Proofs.YtjndfmpicnkplaaGreatDoor.fieldw
/-- A statement's own row. -/
structure StIn (w : World) (b : Nat) (code when stan : ByteArray) (mem : Int) (t : Five) : Prop where
  c0 : w.cell? ⟨b, 0, none⟩ = some (.string code)
  c1 : w.cell? ⟨b, 1, none⟩ = some (.string when)
  c2 : w.cell? ⟨b, 2, none⟩ = some (.string stan)
  c3 : w.cell? ⟨b, 3, none⟩ = some (.int .i64 mem)
  c4 : w.cell? ⟨b, 4, none⟩ = some (.int .i64 t.1)
  c5 : w.cell? ⟨b, 5, none⟩ = some (.int .i64 t.2.1)
  c6 : w.cell? ⟨b, 6, none⟩ = some (.int .i64 t.2.2.1)
  c7 : w.cell? ⟨b, 7, none⟩ = some (.int .i64 t.2.2.2.1)
  c8 : w.cell? ⟨b, 8, none⟩ = some (.int .i64 t.2.2.2.2)
theorem StIn.below {w w' : World} {b : Nat} {code when stan : ByteArray} {mem : Int} {t : Five} (h : StIn w b code when stan mem t) (hb : Below w.heap.size w w') : StIn w' b code when stan mem t :=
  ⟨hb.keptCell h.c0, hb.keptCell h.c1, hb.keptCell h.c2, hb.keptCell h.c3, hb.keptCell h.c4, hb.keptCell h.c5, hb.keptCell h.c6, hb.keptCell h.c7, hb.keptCell h.c8⟩
theorem ask_len8 {code when stan : ByteArray} {t : Five} {F : Flds} (h : askF code when stan t = some F) : F.length = 8 := by
  obtain ⟨_, _, _, _, _, rfl⟩ := ask_list h
  rfl
theorem ask_small {code when stan : ByteArray} {t : Five} {F : Flds} (h : askF code when stan t = some F) (h0 : code.size ≤ 100000000) (h1 : when.size ≤ 100000000) (h2 : stan.size ≤ 100000000) : SmallF F := by
  obtain ⟨_, _, _, _, _, rfl⟩ := ask_list h
  intro x hx
  have d1 := digitsR_size t.1 10
  have d2 := digitsR_size t.2.1 10
  have d3 := digitsR_size t.2.2.1 16
  have d4 := digitsR_size t.2.2.2.1 16
  have d5 : (signedR t.2.2.2.2 16).1.size ≤ 19 := by
    have e1 := digitsR_size (wrap64 (-t.2.2.2.2)) 16
    have e2 := digitsR_size t.2.2.2.2 16
    have e3 (a b : ByteArray) : (a ++ b).size = a.size + b.size := ByteArray.size_append
    unfold signedR
    split
    · show ((⟨#[68]⟩ : ByteArray) ++ _).size ≤ 19
      rw [e3]
      show 1 + _ ≤ 19
      omega
    · show ((⟨#[67]⟩ : ByteArray) ++ _).size ≤ 19
      rw [e3]
      show 1 + _ ≤ 19
      omega
  simp only [List.mem_cons, List.not_mem_nil, or_false] at hx
  rcases hx with rfl | rfl | rfl | rfl | rfl | rfl | rfl | rfl
  · exact h1
  · exact h2
  · exact h0
  · exact Nat.le_trans d1 (by decide)
  · exact Nat.le_trans d2 (by decide)
  · exact Nat.le_trans d3 (by decide)
  · exact Nat.le_trans d4 (by decide)
  · exact Nat.le_trans d5 (by decide)
theorem ask_all {w : World} (hT : Tabs w) (code when stan : ByteArray) (mem t0 t1 t2 t3 t4 : Int) (s0 : code.size ≤ 100000000) (s1 : when.size ≤ 100000000) (s2 : stan.size ≤ 100000000) (h0 : okI t0) (h1 : okI t1) (h2 : okI t2) (h3 : okI t3) (h4 : okI t4) :
    Calls Tryz.prog 6 #[.string code, .string when, .string stan, .agg #[.int .i64 mem, .int .i64 t0, .int .i64 t1, .int .i64 t2, .int .i64 t3, .int .i64 t4]] w fun e w' =>
      (e = .returned (.tuple #[.agg #[.int .i64 0, .slice none 0 0], .int .i64 41]) ∧ Below w.heap.size w w' ∧ askR code when stan (t0, t1, t2, t3, t4) = none) ∨
      ∃ F p c, askR code when stan (t0, t1, t2, t3, t4) = some F ∧ readR 500 F = ([t0, t1, t2, t3, t4], 0) ∧ SmallF F ∧ e = .returned (.tuple #[.agg #[.int .i64 500, .slice p 8 c], .int .i64 0]) ∧ FsAt w' (.slice p 8 c) F ∧ Below w.heap.size w w' :=
  (ask_any hT code when stan mem (t0, t1, t2, t3, t4) h0 h1 h2 h3 h4 (fun F h => checkAt_any (ask_small h s0 s1 s2) (by rw [ask_len8 h]; decide))).mono fun e w' h => by
    rcases h with ⟨h, rfl, b⟩ | ⟨F, v, h, rfl, hB, b⟩
    · exact .inl ⟨rfl, b, h⟩
    · have ha : askF code when stan (t0, t1, t2, t3, t4) = some F := by
        unfold askR at h
        cases e : askF code when stan (t0, t1, t2, t3, t4) with
        | none => rw [e] at h; cases h
        | some G =>
          rw [e, Option.bind_some] at h
          split at h
          · exact h
          · cases h
      have hl := ask_len8 ha
      have hf := hB.fs (by rw [hl]; decide)
      obtain ⟨p, c, rfl⟩ := hf.shape
      rw [hl] at hf ⊢
      exact .inr ⟨F, p, c, h, ask_read h4 h, ask_small ha s0 s1 s2, rfl, hf, b⟩
theorem read_ok {w : World} {v : Value} {F : Flds} (h : FsAt w v F) (hT : Tabs w) (hS : SmallF F) {t0 t1 t2 t3 t4 : Int} (hr : readR 500 F = ([t0, t1, t2, t3, t4], 0)) :
    Calls Tryz.prog 9 #[.agg #[.int .i64 500, v]] w fun e w' => e = .returned (.tuple #[.agg #[.int .i64 0, .int .i64 t0, .int .i64 t1, .int .i64 t2, .int .i64 t3, .int .i64 t4], .int .i64 0]) ∧ Below w.heap.size w w' :=
  (read_any h hT hS 500).mono fun e w' h => by
    rw [hr] at h
    exact h
theorem answer_s {w : World} {v vl : Value} {F : Flds} {L : List Tot} (h : FsAt w v F) (hT : Tabs w) (hS : SmallF F) (hL : TotsAt w vl L) (ty m dn : Int) (closed : Bool) (s : ByteArray) (hs : ansOf ty F m closed L = s) :
    Calls Tryz.prog 11 #[.agg #[.int .i64 ty, v], .int .i64 m, .agg #[.int .i64 dn, vl], .bool closed] w fun e w' => ∃ p n c G, e = .returned (.agg #[.int .i64 510, .slice p n c]) ∧ FsAt w' (.slice p n c) G ∧ getM G 39 = some s ∧ Below w.heap.size w w' :=
  (answer_any h hT hS hL ty m dn closed).mono fun e w' h => by
    obtain ⟨v', rfl, hB, b⟩ := h
    have e1 := answer_code ty F m closed L
    have e2 := answer_len ty F m closed L
    rw [hs] at e1
    have hf := hB.fs (by have h1 : one F 7 ≤ 1 := by { unfold one; split <;> omega }
                         have h2 : one F 11 ≤ 1 := by { unfold one; split <;> omega }
                         have h3 : one F 32 ≤ 1 := by { unfold one; split <;> omega }
                         simp only [maxLen]; omega)
    obtain ⟨p, c, rfl⟩ := hf.shape
    exact ⟨p, _, c, _, rfl, hf, e1, b⟩
theorem bal_none {L : List Tot} {m : Int} (t : Five) (h : ∀ j (hj : j < L.length), L[j].1 ≠ m) : balB L m t = false := by
  have : totAt L m = L.length := List.findIdx_eq_length.2 (fun x hx => by
    obtain ⟨j, hj, rfl⟩ := List.mem_iff_getElem.1 hx
    simpa using h j hj)
  unfold balB
  rw [this, List.getElem?_eq_none (Nat.le_refl _)]
theorem bal_some {L : List Tot} {m : Int} (t : Five) {k : Nat} (hk : k < L.length) (h : ∀ j (hj : j < L.length), j < k → L[j].1 ≠ m) (he : L[k].1 = m) : balB L m t = decide (L[k].2 = t) := by
  have : totAt L m = k := by
    refine (List.findIdx_eq hk).2 ⟨by simpa using he, fun j hj => ?_⟩
    simpa using h j (by omega) hj
  unfold balB
  rw [this, List.getElem?_eq_getElem hk]
end Go.Proofs.YtjndfmpicnkplaaGreatDoor.msgw
