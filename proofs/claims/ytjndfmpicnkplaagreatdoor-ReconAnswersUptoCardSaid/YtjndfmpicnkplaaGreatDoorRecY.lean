/- Layer 20: Check of any message of a right type. Layer 20: the document's example, in plain words; what an answer has. No walk. Layer 20: the document's example, walked. Layer 20: what was stated is read again; a balance. No walk. Conditions: as each theorem says. -/
import Derived.Test.YtjndfmpicnkplaaGreatDoorRecX
import Derived.Test.YtjndfmpicnkplaaGreatDoorMsgZ
import Derived.Test.YtjndfmpicnkplaaGreatDoorFieldNum
namespace Go.Proofs.YtjndfmpicnkplaaGreatDoor.msgw
open Go.RowKit
open Go.Proofs.YtjndfmpicnkplaaGreatDoor.msgp
open Go.Proofs.YtjndfmpicnkplaaGreatDoor.buf
open Go.Proofs.YtjndfmpicnkplaaGreatDoor.fieldp
open Go.Proofs.YtjndfmpicnkplaaGreatDoor.fieldw
/-- The number of what is wrong, or nought. -/
def erZ : Option Er → Int
  | none => 0
  | some e => erN e
theorem errF_ne {last : Int} {F : Flds} {e : Er} (h : errF last F = some e) : erN e ≠ 0 := by
  induction F generalizing last with
  | nil => cases h
  | cons x r ih =>
    unfold errF at h
    split at h
    · obtain rfl := Option.some.inj h; show (52 : Int) ≠ 0; decide
    · split at h
      · obtain rfl := Option.some.inj h; show (52 : Int) ≠ 0; decide
      · split at h
        · exact ih h
        · rename_i hc
          obtain rfl := Option.some.inj h
          exact hc
theorem check_any2 {w : World} {v : Value} {F : Flds} (hF : FsAt w v F) (hT : Tabs w) (hS : SmallF F) (hl : F.length ≤ 24) (ty : Int) (hty : typesL.contains ty = true) :
    Calls Tryz.prog 17 #[.agg #[.int .i64 ty, v]] w fun e w' => e = .returned (.int .i64 (erZ (errF 0 F))) ∧ Below w.heap.size w w' := by
  obtain ⟨p, c, rfl⟩ := hF.shape
  have b0 : Below w.heap.size w (w.alloc (.cells #[.int .i64 ty, .slice p F.length c] 29)) := (Below.refl _ _).alloc (Nat.le_refl _) _
  have HC := Lib.hid (check_in (hF.below b0) (hT.below b0) ty hty hl hS)
  have HB0 := Lib.hid b0
  have HT := Lib.hid (hT.below b0)
  have HR := Lib.hid (show erZ (errF 0 F) = erZ (errF 0 F) from rfl)
  obtain ⟨R, eR⟩ : ∃ R, errF 0 F = R := ⟨_, rfl⟩
  rw [eR] at HC ⊢
  clear hF hT hS hl b0 eR HR
  go_enter Tryz.func17, Tryz.ntmps17
  go_wp2_with fail
  refine HC.out.mono ?_
  rintro e w1 ⟨v1, rfl, h1, b1⟩
  have HT1 := Lib.hid (HT.out.below b1)
  have HB := Lib.hid (HB0.out.trans (b1.mono HB0.out.size))
  have HK := Lib.hid (show Calls Tryz.prog 37 #[v1] w1 fun e w' => e = .returned (.int .i64 (erZ R)) ∧ Below w1.heap.size w1 w' from by
    cases R with
    | none =>
      have h2 : v1 = .nilIface := h1
      subst h2
      exact told_ok (w := w1)
    | some er => exact told_any HT1.out.err h1)
  clear h1 b1 HC
  go_wp2_with fail
  refine HK.out.mono ?_
  rintro e w2 ⟨rfl, b2⟩
  have HB2 := Lib.hid (HB.out.trans (b2.mono HB.out.size))
  clear b2
  go_wp2_with fail
  go_ret
  exact ⟨rfl, HB2.out⟩
theorem checkAt_any {F : Flds} (hS : SmallF F) (hl : F.length ≤ 24) : CheckAt F := by
  intro w v hF hT
  refine ⟨erZ (errF 0 F), ?_, check_any2 hF hT hS hl 500 (by decide)⟩
  cases e : errF 0 F with
  | none => exact ⟨fun _ => rfl, fun _ => rfl⟩
  | some er => exact ⟨fun h => absurd h (errF_ne e), fun h => by cases h⟩
theorem checkAt_ok {F : Flds} (_h : errF 0 F = none) (hS : SmallF F) (hl : F.length ≤ 24) : CheckAt F := checkAt_any hS hl
end Go.Proofs.YtjndfmpicnkplaaGreatDoor.msgw
namespace Go.Proofs.YtjndfmpicnkplaaGreatDoor.msgw
open Go.RowKit
open Go.Proofs.YtjndfmpicnkplaaGreatDoor.msgp
open Go.Proofs.YtjndfmpicnkplaaGreatDoor.buf
open Go.Proofs.YtjndfmpicnkplaaGreatDoor.fieldp
open Go.Proofs.YtjndfmpicnkplaaGreatDoor.fieldw
def exCode : ByteArray := ⟨#[49, 49]⟩
def exWhen : ByteArray := ⟨#[48, 49, 48, 49, 48, 48, 48, 48, 48, 48]⟩
def exStan : ByteArray := ⟨#[48, 48, 48, 48, 48, 49]⟩
def exT : Five := (1, 0, 5, 0, 5)
def exM : Flds := [(7, exWhen), (11, exStan), (32, exCode), (74, ⟨#[48, 48, 48, 48, 48, 48, 48, 48, 48, 49]⟩), (76, ⟨#[48, 48, 48, 48, 48, 48, 48, 48, 48, 48]⟩), (86, ⟨#[48, 48, 48, 48, 48, 48, 48, 48, 48, 48, 48, 48, 48, 48, 48, 53]⟩), (88, ⟨#[48, 48, 48, 48, 48, 48, 48, 48, 48, 48, 48, 48, 48, 48, 48, 48]⟩), (97, ⟨#[67, 48, 48, 48, 48, 48, 48, 48, 48, 48, 48, 48, 48, 48, 48, 48, 53]⟩)]
def exL : List Tot := [(0, 0, 0, 0, 0, 0), (1, 1, 0, 5, 0, 5)]
theorem ex_ask : askF exCode exWhen exStan exT = some exM := by kernel_rfl
theorem ex_err : errF 0 exM = none := by kernel_rfl
theorem ex_small : SmallF exM := by
  intro x hx
  simp only [exM, List.mem_cons, List.not_mem_nil, or_false] at hx
  rcases hx with rfl | rfl | rfl | rfl | rfl | rfl | rfl | rfl <;> decide
theorem ex_askR : askR exCode exWhen exStan exT = some exM := by unfold askR; rw [ex_ask, Option.bind_some, if_pos ex_err]
theorem ex_one : ansOf 500 exM 1 true exL = ⟨#[48, 48]⟩ := by kernel_rfl
theorem ex_two : ansOf 500 exM 0 true exL = ⟨#[57, 53]⟩ := by kernel_rfl
/-- A field, if there is one. -/
def opt1 (F : Flds) (no : Int) : Flds := match getM F no with
  | none => []
  | some s => [(no, s)]
theorem answer_eq (ty : Int) (F : Flds) (m : Int) (closed : Bool) (L : List Tot) : answerM ty F m closed L = opt1 F 7 ++ (opt1 F 11 ++ (opt1 F 32 ++ [(39, ansOf ty F m closed L)])) := by
  unfold answerM
  obtain ⟨a, ea⟩ : ∃ a, ansOf ty F m closed L = a := ⟨_, rfl⟩
  rw [ea]
  unfold opt1
  cases h7 : getM F 7 <;> cases h11 : getM F 11 <;> cases h32 : getM F 32 <;> simp only [copyM, List.foldl, h7, h11, h32] <;> rfl
theorem answer_code (ty : Int) (F : Flds) (m : Int) (closed : Bool) (L : List Tot) : getM (answerM ty F m closed L) 39 = some (ansOf ty F m closed L) := by
  rw [answer_eq]
  unfold opt1
  cases h7 : getM F 7 <;> cases h11 : getM F 11 <;> cases h32 : getM F 32 <;> rfl
theorem ans_cases (ty : Int) (F : Flds) (m : Int) (closed : Bool) (L : List Tot) : ansOf ty F m closed L = ⟨#[48, 48]⟩ ∨ ansOf ty F m closed L = ⟨#[57, 53]⟩ ∨ ansOf ty F m closed L = ⟨#[51, 48]⟩ := by
  unfold ansOf
  split
  · exact .inr (.inr rfl)
  · split
    · exact .inl rfl
    · exact .inr (.inl rfl)
theorem opt1_small {F : Flds} (h : SmallF F) (no : Int) : SmallF (opt1 F no) := by
  unfold opt1
  have h2 := getM_small h no
  cases e : getM F no with
  | none => exact fun x hx => absurd hx (by simp)
  | some s =>
    intro x hx
    obtain rfl := List.mem_singleton.1 hx
    rw [e] at h2
    exact h2
theorem answer_small (ty : Int) {F : Flds} (h : SmallF F) (m : Int) (closed : Bool) (L : List Tot) : SmallF (answerM ty F m closed L) := by
  rw [answer_eq]
  intro x hx
  rcases List.mem_append.1 hx with hx | hx
  · exact opt1_small h 7 x hx
  rcases List.mem_append.1 hx with hx | hx
  · exact opt1_small h 11 x hx
  rcases List.mem_append.1 hx with hx | hx
  · exact opt1_small h 32 x hx
  · obtain rfl := List.mem_singleton.1 hx
    rcases ans_cases ty F m closed L with e | e | e <;> rw [e] <;> decide
def one (F : Flds) (no : Int) : Nat := if (getM F no).isSome then 1 else 0
theorem answer_len (ty : Int) (F : Flds) (m : Int) (closed : Bool) (L : List Tot) : (answerM ty F m closed L).length = 1 + one F 7 + one F 11 + one F 32 := by
  rw [answer_eq]
  unfold opt1 one
  cases h7 : getM F 7 <;> cases h11 : getM F 11 <;> cases h32 : getM F 32 <;> rfl
end Go.Proofs.YtjndfmpicnkplaaGreatDoor.msgw
namespace Go.Proofs.YtjndfmpicnkplaaGreatDoor.msgw
open Go.RowKit
open Go.Proofs.YtjndfmpicnkplaaGreatDoor.msgp
open Go.Proofs.YtjndfmpicnkplaaGreatDoor.buf
open Go.Proofs.YtjndfmpicnkplaaGreatDoor.fieldp
open Go.Proofs.YtjndfmpicnkplaaGreatDoor.fieldw
theorem okI_small {n : Int} (h : -100 ≤ n ∧ n ≤ 100) : okI n := by unfold okI; omega
theorem ask_ex {w : World} (hT : Tabs w) : Calls Tryz.prog 6 #[.string exCode, .string exWhen, .string exStan, .agg #[.int .i64 1, .int .i64 1, .int .i64 0, .int .i64 5, .int .i64 0, .int .i64 5]] w fun e w' =>
    ∃ g cap, e = .returned (.tuple #[.agg #[.int .i64 500, .slice (some ⟨g, 0, none⟩) 8 cap], .int .i64 0]) ∧ FsAt w' (.slice (some ⟨g, 0, none⟩) 8 cap) exM ∧ Below w.heap.size w w' :=
  (ask_any hT exCode exWhen exStan 1 exT (okI_small (by decide)) (okI_small (by decide)) (okI_small (by decide)) (okI_small (by decide)) (okI_small (by decide)) (fun F h => by
    rw [ex_ask] at h
    obtain rfl := Option.some.inj h
    exact checkAt_ok ex_err ex_small (by decide))).mono fun e w' h => by
    rw [ex_askR] at h
    rcases h with ⟨h, _⟩ | ⟨F, v, h, rfl, hB, b⟩
    · exact absurd h (by simp)
    · obtain rfl := Option.some.inj h
      have hf := hB.fs (show exM.length ≤ maxLen by decide)
      obtain ⟨p, c, rfl⟩ := hf.shape
      obtain ⟨g, o, rfl, _⟩ := hf.get 0 (by decide)
      obtain ⟨cap, rfl, ho⟩ : ∃ cap, c = cap ∧ o = 0 := by
        obtain ⟨⟨_, ⟨h2, _⟩ | ⟨g', cap, cur, h3, _⟩⟩, _⟩ := hB
        · exact absurd h2 (by decide)
        · simp only [Value.slice.injEq, Option.some.injEq, Addr.mk.injEq] at h3
          exact ⟨_, rfl, h3.1.2.1⟩
      subst ho
      exact ⟨g, c, rfl, hf, b⟩
theorem answer_ex {w : World} {v vl : Value} (h : FsAt w v exM) (hT : Tabs w) (hL : TotsAt w vl exL) (m : Int) (s : ByteArray) (hs : ansOf 500 exM m true exL = s) :
    Calls Tryz.prog 11 #[.agg #[.int .i64 500, v], .int .i64 m, .agg #[.int .i64 1, vl], .bool true] w fun e w' => ∃ g cap F, e = .returned (.agg #[.int .i64 510, .slice (some ⟨g, 0, none⟩) 4 cap]) ∧ FsAt w' (.slice (some ⟨g, 0, none⟩) 4 cap) F ∧ SmallF F ∧ getM F 39 = some s ∧ Below w.heap.size w w' :=
  (answer_any h hT ex_small hL 500 m 1 true).mono fun e w' h => by
    obtain ⟨v', rfl, hB, b⟩ := h
    have e1 := answer_code 500 exM m true exL
    have e2 := answer_len 500 exM m true exL
    have e4 := answer_small 500 ex_small m true exL
    rw [hs] at e1
    obtain ⟨F, eF⟩ : ∃ F, answerM 500 exM m true exL = F := ⟨_, rfl⟩
    rw [eF] at e1 e2 e4 hB
    have e3 : F.length = 4 := e2.trans (by decide)
    have hf := hB.fs (by rw [e3]; decide)
    obtain ⟨p, c, rfl⟩ := hf.shape
    obtain ⟨g, o, rfl, _⟩ := hf.get 0 (by rw [e3]; decide)
    have ho : o = 0 := by
      obtain ⟨⟨_, ⟨h2, _⟩ | ⟨g', cap, cur, h3, _⟩⟩, _⟩ := hB
      · exact absurd h2 (by rw [e3]; decide)
      · simp only [Value.slice.injEq, Option.some.injEq, Addr.mk.injEq] at h3
        exact h3.1.2.1
    subst ho
    rw [e3] at hf ⊢
    exact ⟨g, c, F, rfl, hf, e4, e1, b⟩
/-- A message's own row. -/
def MsgIn (w : World) (b : Nat) (ty : Int) (v : Value) : Prop := w.cell? ⟨b, 0, none⟩ = some (.int .i64 ty) ∧ w.cell? ⟨b, 1, none⟩ = some v
theorem MsgIn.below {w w' : World} {b : Nat} {ty : Int} {v : Value} (h : MsgIn w b ty v) (hb : Below w.heap.size w w') : MsgIn w' b ty v := ⟨hb.keptCell h.1, hb.keptCell h.2⟩
theorem msgIn_new (w : World) (ty : Int) (v : Value) : MsgIn (w.alloc (.cells #[.int .i64 ty, v] 29)) w.heap.size ty v :=
  ⟨(cells_at (heap_alloc_last w _) 0).trans rfl, (cells_at (heap_alloc_last w _) 1).trans rfl⟩
theorem tots_ex (w : World) (k : Nat) (hk : w.heap.size = k) : TotsAt (w.alloc (.cells #[.int .i64 0, .int .i64 0, .int .i64 0, .int .i64 0, .int .i64 0, .int .i64 0, .int .i64 1, .int .i64 1, .int .i64 0, .int .i64 5, .int .i64 0, .int .i64 5] 23)) (.slice (some ⟨k, 0, none⟩) 2 2) exL := by
  subst hk
  refine ⟨by decide, _, _, rfl, fun i hi => ⟨w.heap.size, 0, rfl, ?_⟩⟩
  have k0 := heap_alloc_last w (.cells #[.int .i64 0, .int .i64 0, .int .i64 0, .int .i64 0, .int .i64 0, .int .i64 0, .int .i64 1, .int .i64 1, .int .i64 0, .int .i64 5, .int .i64 0, .int .i64 5] 23)
  have hi' : i < 2 := hi
  obtain rfl | rfl : i = 0 ∨ i = 1 := by omega
  · exact ⟨(cells_at k0 _).trans rfl, (cells_at k0 _).trans rfl, (cells_at k0 _).trans rfl, (cells_at k0 _).trans rfl, (cells_at k0 _).trans rfl, (cells_at k0 _).trans rfl⟩
  · exact ⟨(cells_at k0 _).trans rfl, (cells_at k0 _).trans rfl, (cells_at k0 _).trans rfl, (cells_at k0 _).trans rfl, (cells_at k0 _).trans rfl, (cells_at k0 _).trans rfl⟩
theorem alloc_below (w : World) (o : Obj) : Below w.heap.size w (w.alloc o) := (Below.refl _ _).alloc (Nat.le_refl _) _
theorem rget_is {w : World} {v : Value} {F : Flds} (h : FsAt w v F) (ty no : Int) (s : ByteArray) (hs : getM F no = some s) : Calls Tryz.prog 13 #[.agg #[.int .i64 ty, v], .int .i64 no] w fun e w' => e = .returned (.tuple #[.string s, .bool true]) ∧ Below w.heap.size w w' :=
  (rget_any h ty no).mono fun e w' h => by rw [hs] at h; exact h
theorem read_no {w : World} {v : Value} {F : Flds} (h : FsAt w v F) (hT : Tabs w) (hS : SmallF F) : Calls Tryz.prog 9 #[.agg #[.int .i64 510, v]] w fun e w' => e = .returned (.tuple #[.agg #[.int .i64 0, .int .i64 0, .int .i64 0, .int .i64 0, .int .i64 0, .int .i64 0], .int .i64 51]) ∧ Below w.heap.size w w' :=
  (read_any h hT hS 510).mono fun e w' h => by
    rw [show readR 510 F = ([0, 0, 0, 0, 0], 51) from if_pos (by decide)] at h
    exact h
set_option maxHeartbeats 4000000 in
set_option maxRecDepth 100000 in
theorem shown_any {w : World} (hT : Tabs w) : Calls Tryz.prog 5 #[] w fun e w' => e = .returned (.bool true) ∧ Below w.heap.size w w' := by
  have b0 : Below w.heap.size w (w.alloc (.cells #[.int .i64 1, .int .i64 1, .int .i64 0, .int .i64 5, .int .i64 0, .int .i64 5] 23)) := alloc_below _ _
  have HC := Lib.hid (ask_ex (hT.below b0))
  have HT := Lib.hid (hT.below b0)
  have HB0 := Lib.hid b0
  have k0 := heap_alloc_last w (.cells #[.int .i64 1, .int .i64 1, .int .i64 0, .int .i64 5, .int .i64 0, .int .i64 5] 23)
  have HX := Lib.hid (show TotIn (w.alloc (.cells #[.int .i64 1, .int .i64 1, .int .i64 0, .int .i64 5, .int .i64 0, .int .i64 5] 23)) w.heap.size 0 (1, 1, 0, 5, 0, 5) from
    ⟨(cells_at k0 0).trans rfl, (cells_at k0 1).trans rfl, (cells_at k0 2).trans rfl, (cells_at k0 3).trans rfl, (cells_at k0 4).trans rfl, (cells_at k0 5).trans rfl⟩)
  clear b0 hT k0
  go_enter Tryz.func5, Tryz.ntmps5
  go_wp2_with fail
  refine HC.out.mono ?_
  rintro e w1 ⟨g, cap, rfl, hF, b1⟩
  have b2 : Below w1.heap.size w1 (w1.alloc (.cells #[.int .i64 500, .slice (some ⟨g, 0, none⟩) 8 cap] 29)) := alloc_below _ _
  have q : (w1.alloc (.cells #[.int .i64 500, .slice (some ⟨g, 0, none⟩) 8 cap] 29)).cell? ⟨g, 15, none⟩ = some (.string ⟨#[67, 48, 48, 48, 48, 48, 48, 48, 48, 48, 48, 48, 48, 48, 48, 48, 53]⟩) := by
    obtain ⟨b, o, h1, _, h3⟩ := (hF.below b2).get 7 (by decide)
    simp only [Option.some.injEq, Addr.mk.injEq, and_true] at h1
    obtain ⟨rfl, rfl⟩ := h1
    exact h3
  have HX1 := Lib.hid ((HX.out.below b1).below b2)
  obtain ⟨x0, x1, x2, x3, x4, x5⟩ := (HX.out.below b1).below b2
  simp only [Nat.zero_add] at x0 x1 x2 x3 x4 x5
  have b3 : Below (w1.alloc (.cells #[.int .i64 500, .slice (some ⟨g, 0, none⟩) 8 cap] 29)).heap.size (w1.alloc (.cells #[.int .i64 500, .slice (some ⟨g, 0, none⟩) 8 cap] 29)) ((w1.alloc (.cells #[.int .i64 500, .slice (some ⟨g, 0, none⟩) 8 cap] 29)).alloc (.cells #[.int .i64 0, .int .i64 0, .int .i64 0, .int .i64 0, .int .i64 0, .int .i64 0, .int .i64 1, .int .i64 1, .int .i64 0, .int .i64 5, .int .i64 0, .int .i64 5] 23)) := alloc_below _ _
  have HM1 := Lib.hid ((msgIn_new w1 500 (.slice (some ⟨g, 0, none⟩) 8 cap)).below b3)
  have HF := Lib.hid ((hF.below b2).below b3)
  have HX2 := Lib.hid (((HX.out.below b1).below b2).below b3)
  have b4 := HB0.out.trans ((b1.trans (b2.mono b1.size)).mono HB0.out.size)
  have HB1 := Lib.hid (b4.trans (b3.mono b4.size))
  have HT1 := Lib.hid (((HT.out.below b1).below b2).below b3)
  have HL := Lib.hid (tots_ex (w1.alloc (.cells #[.int .i64 500, .slice (some ⟨g, 0, none⟩) 8 cap] 29)) (w1.heap.size + 1) (by simp))
  clear HC hF b1 b2 b3 b4 HT HB0 HX
  go_wp2_with fail
  refine (answer_ex HF.out HT1.out HL.out 1 _ ex_one).mono ?_
  rintro e w2 ⟨g4, c4, F4, rfl, hA, hAS, hA39, c1⟩
  clear q x0 x1 x2 x3 x4 x5 HX1
  have c2 : Below w2.heap.size w2 (w2.alloc (.cells #[.int .i64 510, .slice (some ⟨g4, 0, none⟩) 4 c4] 29)) := alloc_below _ _
  obtain ⟨m0, m1⟩ := (HM1.out.below c1).below c2
  obtain ⟨x0, x1, x2, x3, x4, x5⟩ := (HX2.out.below c1).below c2
  simp only [Nat.zero_add] at x0 x1 x2 x3 x4 x5
  have c3 : Below (w2.alloc (.cells #[.int .i64 510, .slice (some ⟨g4, 0, none⟩) 4 c4] 29)).heap.size (w2.alloc (.cells #[.int .i64 510, .slice (some ⟨g4, 0, none⟩) 4 c4] 29)) ((w2.alloc (.cells #[.int .i64 510, .slice (some ⟨g4, 0, none⟩) 4 c4] 29)).alloc (.cells #[.int .i64 0, .int .i64 0, .int .i64 0, .int .i64 0, .int .i64 0, .int .i64 0, .int .i64 1, .int .i64 1, .int .i64 0, .int .i64 5, .int .i64 0, .int .i64 5] 23)) := alloc_below _ _
  have HM4 := Lib.hid ((msgIn_new w2 510 (.slice (some ⟨g4, 0, none⟩) 4 c4)).below c3)
  have HA := Lib.hid ((hA.below c2).below c3)
  have HFB := Lib.hid (((HF.out.below c1).below c2).below c3)
  have HTB := Lib.hid (((HT1.out.below c1).below c2).below c3)
  have c4' := HB1.out.trans ((c1.trans (c2.mono c1.size)).mono HB1.out.size)
  have HB2 := Lib.hid (c4'.trans (c3.mono c4'.size))
  have HLB := Lib.hid (tots_ex (w2.alloc (.cells #[.int .i64 510, .slice (some ⟨g4, 0, none⟩) 4 c4] 29)) (w2.heap.size + 1) (by simp))
  clear hA c1 c2 c3 c4' HF HT1 HB1 HL HX2 HM1
  go_wp2_with fail
  refine (answer_ex HFB.out HTB.out HLB.out 0 _ ex_two).mono ?_
  rintro e w3 ⟨g5, c5, F5, rfl, hA5, hAS5, hA539, d1⟩
  clear x0 x1 x2 x3 x4 x5 m0 m1
  have d2 : Below w3.heap.size w3 (w3.alloc (.cells #[.int .i64 510, .slice (some ⟨g5, 0, none⟩) 4 c5] 29)) := alloc_below _ _
  have HM4B := Lib.hid ((HM4.out.below d1).below d2)
  obtain ⟨m0, m1⟩ := HM4B.out
  have HM5 := Lib.hid (msgIn_new w3 510 (.slice (some ⟨g5, 0, none⟩) 4 c5))
  have HA4 := Lib.hid ((HA.out.below d1).below d2)
  have HA5 := Lib.hid (hA5.below d2)
  have HT3 := Lib.hid ((HTB.out.below d1).below d2)
  have HB3 := Lib.hid (HB2.out.trans ((d1.trans (d2.mono d1.size)).mono HB2.out.size))
  clear hA5 d1 d2 HA HTB HB2 HFB HLB HM4
  go_wp2_with fail
  refine (rget_is HA4.out 510 39 _ hA39).mono ?_
  rintro e w4 ⟨rfl, e1⟩
  have HM4C := Lib.hid (HM4B.out.below e1)
  obtain ⟨n0, n1⟩ := HM5.out.below e1
  have HA4C := Lib.hid (HA4.out.below e1)
  have HA5C := Lib.hid (HA5.out.below e1)
  have HT4 := Lib.hid (HT3.out.below e1)
  have HB4 := Lib.hid (HB3.out.trans (e1.mono HB3.out.size))
  clear m0 m1 e1 HM4B HM5 HA4 HA5 HT3 HB3
  go_wp2_with fail
  refine (rget_is HA5C.out 510 39 _ hA539).mono ?_
  rintro e w5 ⟨rfl, e1⟩
  have HM4D := Lib.hid (HM4C.out.below e1)
  obtain ⟨m0, m1⟩ := HM4D.out
  have HA4D := Lib.hid (HA4C.out.below e1)
  have HT5 := Lib.hid (HT4.out.below e1)
  have HB5 := Lib.hid (HB4.out.trans (e1.mono HB4.out.size))
  clear n0 n1 e1 HM4C HA4C HA5C HT4 HB4
  go_wp2_with fail
  refine (read_no HA4D.out HT5.out hAS).mono ?_
  rintro e w6 ⟨rfl, e1⟩
  have e2 : Below w6.heap.size w6 (w6.alloc (.cells #[.int .i64 0, .int .i64 0, .int .i64 0, .int .i64 0, .int .i64 0, .int .i64 0] 23)) := alloc_below _ _
  have e3 : Below w5.heap.size w5 (w6.alloc (.cells #[.int .i64 0, .int .i64 0, .int .i64 0, .int .i64 0, .int .i64 0, .int .i64 0] 23)) := e1.trans (e2.mono e1.size)
  obtain ⟨n0, n1⟩ := HM4D.out.below e3
  have HB6 := Lib.hid (HB5.out.trans (e3.mono HB5.out.size))
  clear m0 m1 e1 e2 e3 HM4D HA4D HT5 HB5
  go_wp2_with fail
  go_ret
  exact ⟨rfl, HB6.out⟩
end Go.Proofs.YtjndfmpicnkplaaGreatDoor.msgw
namespace Go.Proofs.YtjndfmpicnkplaaGreatDoor.msgw
open Go.RowKit
open Go.Proofs.YtjndfmpicnkplaaGreatDoor.msgp
open Go.Proofs.YtjndfmpicnkplaaGreatDoor.buf
open Go.Proofs.YtjndfmpicnkplaaGreatDoor.fieldp
open Go.Proofs.YtjndfmpicnkplaaGreatDoor.fieldw
open Go.Proofs.YtjndfmpicnkplaaGreatDoor.fieldl
/-- Is a member's total in the book just this? -/
def balB (L : List Tot) (m : Int) (t : Five) : Bool := match L[totAt L m]? with
  | none => false
  | some x => decide (x.2 = t)
theorem hit_bal (L : List Tot) (m : Int) (t : Five) : hitB L (m, t) = balB L m t := by
  unfold hitB balB
  show (match L[totAt L m]? with | none => false | some x => decide (x = (m, t))) = _
  cases e : L[totAt L m]? with
  | none => rfl
  | some x =>
    have hx : x.1 = m := by
      obtain ⟨hi, rfl⟩ := List.getElem?_eq_some_iff.1 e
      have := List.findIdx_getElem (p := fun x : Tot => decide (x.1 = m)) (w := hi)
      exact of_decide_eq_true this
    obtain ⟨a, b⟩ := x
    obtain rfl : a = m := hx
    simp
end Go.Proofs.YtjndfmpicnkplaaGreatDoor.msgw
