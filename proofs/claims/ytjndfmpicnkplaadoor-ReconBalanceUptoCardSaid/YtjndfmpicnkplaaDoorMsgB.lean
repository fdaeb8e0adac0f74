/- Layer 5: copies of fields; where a field goes. Conditions: as each theorem says. -/
import Derived.Test.YtjndfmpicnkplaaDoorMsgA
import Derived.Lib.SliceRun
namespace Go.Proofs.YtjndfmpicnkplaaDoor.msgw
open Go.RowKit
open Go.Proofs.YtjndfmpicnkplaaDoor.msgp
open Go.Proofs.YtjndfmpicnkplaaDoor.buf
def fCells (x : Fld) : List Value := [.int .i64 x.1, .string x.2]
/-- Fields in a row of one's own. -/
structure FBuf (B : Nat) (W : World) (v : Value) (F : Flds) : Prop where
  buf : Buf W 45 2 v F.length (F.flatMap fCells)
  new : ∀ g, bufBlock v = some g → B ≤ g
theorem fCells_len (F : Flds) : (F.flatMap fCells).length = F.length * 2 := by
  induction F with
  | nil => rfl
  | cons x F ih => rw [List.flatMap_cons, List.length_append, ih, List.length_cons]; simp [fCells]; omega
theorem fCells_at : ∀ (F : Flds) i (h : i < F.length), (F.flatMap fCells)[i * 2]? = some (.int .i64 F[i].1) ∧ (F.flatMap fCells)[i * 2 + 1]? = some (.string F[i].2)
  | [], i, h => by simp at h
  | x :: F, 0, _ => by simp [fCells]
  | x :: F, i + 1, h => by
    have := fCells_at F i (by simpa using h)
    rw [List.flatMap_cons, show (i + 1) * 2 = i * 2 + 2 by omega, show i * 2 + 2 + 1 = i * 2 + 1 + 2 by omega, List.getElem?_append_right (by simp [fCells]), List.getElem?_append_right (by simp [fCells])]
    simpa [fCells] using this
theorem fCells_one (F : Flds) : ∀ u ∈ F.flatMap fCells, u.oneCell' = true := by
  intro u hu
  simp only [List.mem_flatMap, fCells] at hu
  obtain ⟨x, _, hu⟩ := hu
  simp at hu
  rcases hu with rfl | rfl <;> rfl
theorem FBuf.below {B : Nat} {W W' : World} {v : Value} {F : Flds} (h : FBuf B W v F) (hb : Below W.heap.size W W') : FBuf B W' v F :=
  ⟨h.buf.kept fun k hk => hb.block k (h.buf.lt k hk), h.new⟩
theorem FBuf.fs {B : Nat} {W : World} {v : Value} {F : Flds} (h : FBuf B W v F) (hF : F.length ≤ maxLen) : FsAt W v F := by
  obtain ⟨⟨h1, ⟨h2, h3⟩ | ⟨g, cap, cur, rfl, h3, h4, h5, h6, h7, h8⟩⟩, h9⟩ := h
  · obtain rfl := List.eq_nil_of_length_eq_zero h2
    rcases h3 with rfl | ⟨g, rfl⟩
    · exact ⟨hF, _, _, rfl, Nat.le_refl _, fun i hi => by simp at hi⟩
    · exact ⟨hF, _, _, rfl, Nat.le_refl _, fun i hi => by simp at hi⟩
  · refine ⟨hF, _, cap, rfl, h4, fun i hi => ⟨g, 0, rfl, ?_, ?_⟩⟩
    · rw [cells_at h3, Nat.zero_add, take_get h8 (by omega)]
      exact (fCells_at F i hi).1
    · rw [cells_at h3, Nat.zero_add, take_get h8 (by omega)]
      exact (fCells_at F i hi).2
theorem info45f : (Tryd.prog.info? 45).map (fun i => (i.zero, i.size, i.bytes)) = some (some (.agg #[.int .i64 0, .string ⟨#[]⟩]), 2, 24) := by kernel_rfl
set_option maxHeartbeats 1000000 in
theorem clone_fs {w : World} {v : Value} {F : Flds} (h : FsAt w v F) (hF : F.length ≤ 2097152) :
    Calls Tryd.prog 22 #[v] w fun e w' => ∃ v', e = .returned v' ∧ FBuf w.heap.size w' v' F ∧ Below w.heap.size w w' := by
  obtain ⟨p, c, rfl⟩ := h.shape
  by_cases h0 : F.length = 0
  · obtain rfl := List.eq_nil_of_length_eq_zero h0
    cases p with
    | none =>
      have hq := fun w => Lib.run_eql_slice_nil (P := Tryd.prog) w 30 _ none 0 c 0 0 Tryd.underlying30
      clear h h0 hF
      go_enter Tryd.func22, Tryd.ntmps22
      go_wp2_with fail
      go_ret
      exact ⟨_, rfl, ⟨⟨rfl, .inl ⟨rfl, .inl rfl⟩⟩, fun g h => by simp [bufBlock] at h⟩, Below.refl _ _⟩
    | some ad =>
      have hq := fun w => Lib.run_eql_slice_nil (P := Tryd.prog) w 30 _ (some ad) 0 c 0 0 Tryd.underlying30
      clear h h0 hF
      go_enter Tryd.func22, Tryd.ntmps22
      go_wp2_with (with_reducible refine wpList_run rfl _ (exec_append_no (.tmp 5) (.tmp 6) 30 rfl 45 _ 2 24 Tryd.underlying30 info45f rfl rfl (by omega)) ?_)
      go_ret
      exact ⟨_, rfl, ⟨⟨rfl, .inl ⟨rfl, .inr ⟨_, rfl⟩⟩⟩, fun g h => by simp [bufBlock] at h⟩, (Below.refl _ _).alloc (Nat.le_refl _) _⟩
  · obtain ⟨b, o, rfl, q00⟩ := h.get 0 (by omega)
    clear q00
    have hq := fun w => Lib.run_eql_slice_nil (P := Tryd.prog) w 30 _ (some ⟨b, o, none⟩) F.length c 0 0 Tryd.underlying30
    have hB0 : Buf (w.alloc (.cells #[] 45)) 45 2 (.slice (some ⟨w.heap.size, 0, none⟩) 0 0) 0 [] := ⟨rfl, .inl ⟨rfl, .inr ⟨_, rfl⟩⟩⟩
    have b1 : Below w.heap.size w (w.alloc (.cells #[] 45)) := (Below.refl _ _).alloc (Nat.le_refl _) _
    have hnews : ∀ j u, (F.flatMap fCells)[j]? = some u → (w.alloc (.cells #[] 45)).cell? ((⟨b, o, none⟩ : Addr).add j) = some u := fun j u hu => by
      have hadd : (⟨b, o, none⟩ : Addr).add j = ⟨b, o + j, none⟩ := by unfold Addr.add; split <;> simp_all
      have hj : j < F.length * 2 := by rw [← fCells_len]; exact (List.getElem?_eq_some_iff.1 hu).1
      obtain ⟨b', o', e, q0, q1⟩ := (h.below b1).get (j / 2) (by omega)
      simp only [Option.some.injEq, Addr.mk.injEq, and_true] at e
      obtain ⟨rfl, rfl⟩ := e
      obtain ⟨f0, f1⟩ := fCells_at F (j / 2) (by omega)
      rw [hadd]
      rcases Nat.mod_two_eq_zero_or_one j with hm | hm
      · have ej : j / 2 * 2 = j := by omega
        rw [ej] at f0 q0
        rw [f0] at hu
        rw [q0, hu]
      · have ej : j / 2 * 2 + 1 = j := by omega
        rw [ej] at f1
        rw [show o + j / 2 * 2 + 1 = o + j by omega] at q1
        rw [f1] at hu
        rw [q1, hu]
    have hl : Hid ((F.flatMap fCells).length = F.length * 2) := Lib.hid (fCells_len F)
    have hm : 0 < F.length := by omega
    have h63 : 0 + F.length ≤ maxLen := by simp only [maxLen]; omega
    have hby : (0 + F.length) * 24 ≤ 140737488355328 := by omega
    have h1 := fCells_one F
    clear h h0 b1
    go_enter Tryd.func22, Tryd.ntmps22
    go_wp2_with (refine wpList_append_buf rfl (.tmp 5) (.tmp 6) 30 rfl 45 _ 2 24 Tryd.underlying30 info45f rfl (by omega) (.slice (some ⟨w.heap.size, 0, none⟩) 0 0) 0 _ rfl hB0 ⟨b, o, none⟩ F.length c rfl (F.flatMap fCells) hl.out hnews h1 hm h63 hby ?_; intro gg c3 w3 hB3 hg3 hc1 _ hat _)
    go_ret
    have eb : bufBlock (.slice (some ⟨w.heap.size, 0, none⟩) 0 0) = none := rfl
    rw [eb] at hg3 hat
    refine ⟨.slice (some ⟨gg, 0, none⟩) F.length c3, rfl, ⟨by simpa using hB3, fun g hg => ?_⟩, ?_⟩
    · have : g = gg := by
        unfold bufBlock at hg
        simp only at hg
        split at hg
        · cases hg
        · injection hg with hg; exact hg.symm
      subst this
      rcases hat with hat | hat
      · cases hat
      · simp at hat
        omega
    · exact ((Below.refl _ _).alloc (Nat.le_refl _) _).grown hg3 (by simp) (by simp)
end Go.Proofs.YtjndfmpicnkplaaDoor.msgw
