/- Layer 5: the reference's Set. Conditions: as each theorem says. -/
import Derived.Test.YtommklkihjmgcaaGreatDoorRSet
import Derived.Test.YtommklkihjmgcaaGreatDoorLawX
import Derived.Test.YtommklkihjmgcaaGreatDoorArgs
namespace Go.Proofs.YtommklkihjmgcaaGreatDoor.msgw
open Go.RowKit Go.Proofs.YtommklkihjmgcaaGreatDoorW.PrintWords Go.Proofs.YtommklkihjmgcaaGreatDoorW.PrintLast Go.Proofs.YtommklkihjmgcaaGreatDoor.PMessageBack Go.Proofs.YtommklkihjmgcaaGreatDoor.msgp Go.Proofs.YtommklkihjmgcaaGreatDoor.buf
theorem insM_cons (x : Fld) (D : Flds) (no : Int) (t : ByteArray) : insM (x :: D) no t = if no < x.1 then (no, t) :: x :: D else x :: insM D no t := by
  unfold insM spot
  rw [List.findIdx_cons]
  by_cases h : no < x.1
  · rw [if_pos h]; simp [h]
  · rw [if_neg h]; simp [h]
/-- What is still to come. -/
def restM (done : Bool) (A : Flds) (no : Int) (t : ByteArray) : Flds := if done then delM A no else insM (delM A no) no t
theorem ref_set_loop (l : List S28) (hl : l.length ≤ 1048576) (ty no aty : Int) (t : ByteArray) : ∀ (d k i : Nat) (done : Bool) (acc : List S28), i + d = l.length → d < k → acc.length ≤ 2 * i + 1 →
    groatref05_Set.l0 k no t done i ty l aty acc = some (aty, acc ++ (restM done ((l.map fldS).drop i) no t).map unS)
  | 0, k, i, done, acc, hd, hk, ha => by
    obtain ⟨k, rfl⟩ : ∃ m, k = m + 1 := ⟨k - 1, by omega⟩
    rw [groatref05_Set.l0, if_neg (by omega), List.drop_eq_nil_of_le (by simp; omega)]
    cases done with
    | true => simp [restM, delM]
    | false =>
      simp only [Bool.false_eq_true, if_false]
      rw [if_pos (by omega)]
      rfl
  | d + 1, k, i, done, acc, hd, hk, ha => by
    obtain ⟨k, rfl⟩ : ∃ m, k = m + 1 := ⟨k - 1, by omega⟩
    have hi : i < l.length := by omega
    have hi2 : i < (l.map fldS).length := by simpa using hi
    have hx : (l.map fldS)[i] = (l[i].f0, l[i].f1) := by simp [fldS]
    rw [groatref05_Set.l0, if_pos (by omega), if_pos (by omega), rd_at l i hi, List.drop_eq_getElem_cons hi2, hx, show wrap64 ((i : Int) + 1) = ((i + 1 : Nat) : Int) from by rw [IntWalk.wrap64_in _ ⟨by omega, by omega⟩]; rfl]
    by_cases h : l[i].f0 = no
    · rw [if_pos h, ref_set_loop l hl ty no aty t d k (i + 1) done acc (by omega) (by omega) (by omega)]
      have : delM ((l[i].f0, l[i].f1) :: (l.map fldS).drop (i + 1)) no = delM ((l.map fldS).drop (i + 1)) no := List.filter_cons_of_neg (by simpa using h)
      unfold restM
      rw [this]
    · have hdel : delM ((l[i].f0, l[i].f1) :: (l.map fldS).drop (i + 1)) no = (l[i].f0, l[i].f1) :: delM ((l.map fldS).drop (i + 1)) no := List.filter_cons_of_pos (by simpa using h)
      rw [if_neg h]
      by_cases hg : l[i].f0 > no
      · rw [if_pos hg]
        cases done with
        | true =>
          rw [if_pos rfl, if_pos (by omega), ref_set_loop l hl ty no aty t d k (i + 1) true _ (by omega) (by omega) (by simp; omega)]
          unfold restM
          rw [if_pos rfl, if_pos rfl, hdel, List.map_cons, List.append_assoc]
          rfl
        | false =>
          rw [if_neg (by decide), if_pos (by omega), Option.bind_some, if_pos (by simp; omega), ref_set_loop l hl ty no aty t d k (i + 1) true _ (by omega) (by omega) (by simp; omega)]
          unfold restM
          rw [if_pos rfl, if_neg (by decide), hdel, insM_cons, if_pos hg, List.map_cons, List.map_cons, List.append_assoc, List.append_assoc]
          rfl
      · rw [if_neg hg, if_pos (by omega), ref_set_loop l hl ty no aty t d k (i + 1) done _ (by omega) (by omega) (by simp; omega)]
        unfold restM
        cases done with
        | true =>
          rw [if_pos rfl, if_pos rfl, hdel, List.map_cons, List.append_assoc]
          rfl
        | false =>
          rw [if_neg (by decide), if_neg (by decide), hdel, insM_cons, if_neg (by simpa using hg), List.map_cons, List.append_assoc]
          rfl
theorem ref_set (l : List S28) (hl : l.length ≤ 1048576) (ty no : Int) (t : ByteArray) (k : Nat) (hk : 1048600 < k) : groatref05_Set.f k ty l no t = some (ty, (setM (l.map fldS) no t).map unS) := by
  unfold groatref05_Set.f
  have := ref_set_loop l hl ty no ty t l.length k 0 false [] (by omega) (by omega) (by simp)
  rw [show ((0 : Nat) : Int) = 0 from rfl] at this
  rw [this]
  simp [restM, setM]
theorem fs_of_C {w : World} {A : Option Addr} {c : Nat} {l : List S28} (h : Kd.C k28 w A l.length l) (hc : l.length ≤ c) (hm : l.length ≤ maxLen) : FsAt w (.slice A l.length c) (l.map fldS) := by
  have h0 := rows_in (⟨0, ⟨#[]⟩⟩ : S28) h (fun x => [.int .i64 x.f0, .string x.f1]) (fun a c h => by obtain ⟨c0, r0, rfl, rfl, q0⟩ := h; rw [show r0 = _ from q0]; rfl) (by decide) (fun _ => rfl)
  refine ⟨by rw [List.length_map]; exact hm, A, c, by rw [List.length_map], by rw [List.length_map]; exact hc, fun i hi => ?_⟩
  obtain ⟨b, o, e, h⟩ := h0 i (by simpa using hi)
  refine ⟨b, o, e, ?_, ?_⟩
  · rw [List.getElem_map]
    exact h 0 _ rfl
  · rw [List.getElem_map]
    exact h 1 _ rfl
theorem setM_len (F : Flds) (no : Int) (t : ByteArray) : 0 < (setM F no t).length ∧ (setM F no t).length ≤ F.length + 1 := by
  have h1 : (delM F no).length ≤ F.length := List.length_filter_le _ _
  unfold setM insM
  simp only [List.length_append, List.length_cons, List.length_take, List.length_drop]
  omega
theorem rset_any {w : World} {v : Value} {F : Flds} (h : FsAt w v F) (hl : F.length ≤ 1048576) (ty no : Int) (t : ByteArray) :
    Calls Tryz.prog 17 #[.agg #[.int .i64 ty, v], .int .i64 no, .string t] w fun e w' => ∃ p c, e = .returned (.agg #[.int .i64 ty, .slice p (setM F no t).length c]) ∧ FsAt w' (.slice p (setM F no t).length c) (setM F no t) ∧ Below w.heap.size w w' := by
  obtain ⟨p, c, rfl⟩ := h.shape
  obtain ⟨a1, a2, a3⟩ := C_of_fs h
  rw [a1] at a2 ⊢
  have hr := ref_set (F.map unS) (by rw [List.length_map]; exact hl) ty no t 1048601 (by decide)
  rw [fld_un] at hr
  refine (groatref05_Set.calls 1048601 ty p c (F.map unS) no t _ _ w a3 a2 hr).mono ?_
  rintro e w' ⟨v1, rfl, hR, hb⟩
  obtain ⟨A, cc, rfl, hc, hC⟩ := Kd.R_reads hR
  have hm := (setM_len F no t).2
  have hf := fs_of_C hC hc (by rw [List.length_map]; simp only [maxLen]; omega)
  rw [fld_un, List.length_map] at hf
  rw [List.length_map]
  exact ⟨A, cc, rfl, hf, hb⟩
end Go.Proofs.YtommklkihjmgcaaGreatDoor.msgw
