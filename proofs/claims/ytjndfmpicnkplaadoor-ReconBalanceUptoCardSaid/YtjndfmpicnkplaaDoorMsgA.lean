/- Layer 5: how a message's fields lie in memory; Get. Conditions: as each theorem says. -/
import Derived.Test.YtjndfmpicnkplaaDoorMsgP
import Derived.Test.YtjndfmpicnkplaaDoorBuf
import Derived.Test.YtjndfmpicnkplaaDoorBuf2
import Derived.Test.YtjndfmpicnkplaaDoorProg
import Derived.Carry
import Derived.Deep.QuietTactic
import Derived.BigQuiet
import Derived.Lib.Hide
namespace Go.Proofs.YtjndfmpicnkplaaDoor.msgw
open Go.RowKit
open Go.Proofs.YtjndfmpicnkplaaDoor.msgp
open Go.Proofs.YtjndfmpicnkplaaDoor.buf
/-- Fields in a slice. -/
def FsAt (w : World) (v : Value) (F : Flds) : Prop :=
  F.length ≤ maxLen ∧ ∃ p c, v = .slice p F.length c ∧ F.length ≤ c ∧ ∀ i (hi : i < F.length), ∃ b o, p = some ⟨b, o, none⟩ ∧ w.cell? ⟨b, o + i * 2, none⟩ = some (.int .i64 F[i].1) ∧ w.cell? ⟨b, o + i * 2 + 1, none⟩ = some (.string F[i].2)
theorem _root_.Go.RowKit.Below.keptCell {w w' : World} {x i : Nat} {u : Value} (t : Below w.heap.size w w') (h : w.cell? ⟨x, i, none⟩ = some u) : w'.cell? ⟨x, i, none⟩ = some u :=
  (t.cell (p := ⟨x, i, none⟩) (World.block_lt_of_cell? w ⟨x, i, none⟩ h)).trans h
theorem FsAt.below {w w' : World} {v : Value} {F : Flds} (h : FsAt w v F) (hb : Below w.heap.size w w') : FsAt w' v F := by
  obtain ⟨h0, p, c, h1, h2, h3⟩ := h
  refine ⟨h0, p, c, h1, h2, fun i hi => ?_⟩
  obtain ⟨b, o, h4, h5, h6⟩ := h3 i hi
  exact ⟨b, o, h4, hb.keptCell h5, hb.keptCell h6⟩
theorem FsAt.shape {w : World} {v : Value} {F : Flds} (h : FsAt w v F) : ∃ p c, v = .slice p F.length c := by
  obtain ⟨_, p, c, h1, _⟩ := h
  exact ⟨p, c, h1⟩
theorem FsAt.get {w : World} {p : Option Addr} {n c : Nat} {F : Flds} (h : FsAt w (.slice p n c) F) : ∀ i (hi : i < F.length), ∃ b o, p = some ⟨b, o, none⟩ ∧ w.cell? ⟨b, o + i * 2, none⟩ = some (.int .i64 F[i].1) ∧ w.cell? ⟨b, o + i * 2 + 1, none⟩ = some (.string F[i].2) := by
  obtain ⟨_, p', c', h1, _, h3⟩ := h
  simp only [Value.slice.injEq] at h1
  obtain ⟨rfl, _, _⟩ := h1
  exact h3
theorem drewN_base {B : Nat} (w : World) (n : Nat) : Below B w (w.drewN n) := ⟨rfl, rfl, rfl, Nat.le_refl _, fun _ _ => rfl⟩
theorem getM_step (F : Flds) (no : Int) (k : Nat) (hk : k < F.length) : getM (F.drop k) no = if F[k].1 = no then some F[k].2 else getM (F.drop (k + 1)) no := by
  rw [List.drop_eq_getElem_cons hk]
  unfold getM
  by_cases e : F[k].1 = no
  · rw [if_pos e, List.find?_cons_of_pos (by simpa using e)]
    rfl
  · rw [if_neg e, List.find?_cons_of_neg (by simpa using e)]
theorem get_any {w : World} {v : Value} {F : Flds} (h : FsAt w v F) (ty no : Int) :
    Calls Tryd.prog 15 #[.agg #[.int .i64 ty, v], .int .i64 no] w fun e w' => e = .returned (.tuple #[.string ((getM F no).getD ⟨#[]⟩), .bool (getM F no).isSome]) ∧ Below w.heap.size w w' := by
  obtain ⟨p, c, rfl⟩ := h.shape
  have hl := h.1
  simp only [maxLen] at hl
  have H := Lib.hid h
  clear h
  go_enter Tryd.func15, Tryd.ntmps15
  go_wp2_with fail
  obtain ⟨w1, e1⟩ : ∃ W, w.alloc (.cells #[.int .i64 ty, .slice p F.length c] 32) = W := ⟨_, rfl⟩
  have b1 : Below w.heap.size w w1 := by rw [← e1]; exact (Below.refl _ _).alloc (Nat.le_refl _) _
  rw [e1]
  have B1 := Lib.hid b1
  clear e1 b1
  go_loopw [11] (fun i wr => Below w.heap.size w wr ∧ ∃ k : Nat, k ≤ F.length ∧ i = .int .i64 k ∧ getM F no = getM (F.drop k) no) (fun i _ => F.length - (intOf i).toNat)
  case atStart => exact ⟨B1.out, 0, by omega, rfl, by simp⟩
  case round =>
    obtain ⟨hbw, k, hk, rfl, he⟩ := hrel
    by_cases hlt : k < F.length
    · have hlt' : (k : Int) < F.length := by omega
      obtain ⟨b, o, rfl, q0, q1⟩ := (H.out.below hbw).get k hlt
      have hst := getM_step F no k hlt
      obtain ⟨x, ex⟩ : ∃ x, x = F[k] := ⟨_, rfl⟩
      rw [← ex] at q0 q1 hst
      obtain ⟨n, s⟩ := x
      rw [hst] at he
      have HE := Lib.hid he
      have HB := Lib.hid (hbw.trans (((Below.refl wr.heap.size wr).alloc (Nat.le_refl _) (.cells #[.int .i64 n, .string s] 45)).mono hbw.size))
      clear he hst ex hbw
      by_cases hn : n = no
      · subst hn
        have HE2 := Lib.hid (show getM F n = some s by rw [HE.out, if_pos rfl])
        go_wp2_with fail
        go_ret2
        exact ⟨by rw [HE2.out]; rfl, HB.out⟩
      · have HE2 := Lib.hid (show getM F no = getM (F.drop (k + 1)) no by rw [HE.out, if_neg hn])
        go_wp2_with fail
        go_roundw
        case rel => exact ⟨HB.out, k + 1, by omega, by go_num, HE2.out⟩
        case measure => simp [intOf]; omega
    · obtain rfl : k = F.length := by omega
      have hlt' : ¬ (F.length : Int) < F.length := by omega
      have HE := Lib.hid (show getM F no = none by rw [he, List.drop_length]; rfl)
      have HB := Lib.hid hbw
      clear he hbw
      go_wp2_with fail
      go_ret2
      exact ⟨by rw [HE.out]; rfl, HB.out⟩
end Go.Proofs.YtjndfmpicnkplaaDoor.msgw
