/- Layer 20: the references' Read, Answer and Same as the law asks for them. Conditions: as each theorem says. -/
import Derived.Test.YtjndfmpicnkplaaGreatDoorRefAns
import Derived.Test.YtjndfmpicnkplaaGreatDoorRecK
import Derived.Test.YtjndfmpicnkplaaGreatDoorRecQ
namespace Go.Proofs.YtjndfmpicnkplaaGreatDoor.PureReconAnswers
open Go.RowKit Go.Proofs.YtjndfmpicnkplaaGreatDoorW.PrintWords Go.Proofs.YtjndfmpicnkplaaGreatDoorW.PrintLast Go.Proofs.YtjndfmpicnkplaaGreatDoor.PReconAnswers Go.Proofs.YtjndfmpicnkplaaGreatDoor.fieldp Go.Proofs.YtjndfmpicnkplaaGreatDoor.fieldw Go.Proofs.YtjndfmpicnkplaaGreatDoor.fieldl Go.Proofs.YtjndfmpicnkplaaGreatDoor.msgp Go.Proofs.YtjndfmpicnkplaaGreatDoor.msgw Go.Proofs.YtjndfmpicnkplaaGreatDoor.buf
theorem C_of_fs {w : World} {p : Option Addr} {n c : Nat} {F : Flds} (h : FsAt w (.slice p n c) F) : n = (F.map unS).length ∧ n ≤ c ∧ Kd.C k43 w p (F.map unS).length (F.map unS) := by
  obtain ⟨h0, p', c', h1, h2, h3⟩ := h
  simp only [Value.slice.injEq] at h1
  obtain ⟨rfl, rfl, rfl⟩ := h1
  refine ⟨by simp, h2, rfl, by rw [List.length_map]; simp only [maxLen] at h0; omega, fun hpos => ?_⟩
  have hpos' : 0 < F.length := by simpa using hpos
  obtain ⟨b, o, rfl, _, _⟩ := h3 0 hpos'
  refine ⟨_, rfl, fun j x hx => ?_⟩
  obtain ⟨y, hy, rfl⟩ : ∃ y, F[j]? = some y ∧ unS y = x := by simpa [List.getElem?_map] using hx
  obtain ⟨hj, rfl⟩ := List.getElem?_eq_some_iff.1 hy
  obtain ⟨b', o', e, q0, q1⟩ := h3 j hj
  simp only [Option.some.injEq, Addr.mk.injEq, and_true] at e
  obtain ⟨rfl, rfl⟩ := e
  have hadd : ∀ m, (⟨b, o, none⟩ : Addr).add m = ⟨b, o + m, none⟩ := fun m => msgw.add_at b o m
  refine ⟨[.int .i64 F[j].1, .string F[j].2], rfl, ⟨_, _, rfl, rfl, rfl⟩, fun i u hu => ?_⟩
  rw [hadd]
  match i, hu with
  | 0, hu => simp only [List.getElem?_cons_zero, Option.some.injEq] at hu; subst hu; exact q0
  | 1, hu => simp only [List.getElem?_cons_succ, List.getElem?_cons_zero, Option.some.injEq] at hu; subst hu; exact q1
  | i + 2, hu => simp at hu
def unT (x : Tot) : S23 := ⟨x.1, x.2.1, x.2.2.1, x.2.2.2.1, x.2.2.2.2.1, x.2.2.2.2.2⟩
theorem tot_un (L : List Tot) : (L.map unT).map totS = L := by
  rw [List.map_map]
  exact List.map_id _
theorem C_of_tots {w : World} {p : Option Addr} {n c : Nat} {L : List Tot} (h : TotsAt w (.slice p n c) L) : n = (L.map unT).length ∧ Kd.C k23 w p (L.map unT).length (L.map unT) := by
  obtain ⟨h0, p', c', h1, h3⟩ := h
  simp only [Value.slice.injEq] at h1
  obtain ⟨rfl, rfl, rfl⟩ := h1
  refine ⟨by simp, rfl, by rw [List.length_map]; simp only [maxLen] at h0; omega, fun hpos => ?_⟩
  have hpos' : 0 < L.length := by simpa using hpos
  obtain ⟨b, o, rfl, _⟩ := h3 0 hpos'
  refine ⟨_, rfl, fun j x hx => ?_⟩
  obtain ⟨y, hy, rfl⟩ : ∃ y, L[j]? = some y ∧ unT y = x := by simpa [List.getElem?_map] using hx
  obtain ⟨hj, rfl⟩ := List.getElem?_eq_some_iff.1 hy
  obtain ⟨b', o', e, q0, q1, q2, q3, q4, q5⟩ := h3 j hj
  simp only [Option.some.injEq, Addr.mk.injEq, and_true] at e
  obtain ⟨rfl, rfl⟩ := e
  have hadd : ∀ m, (⟨b, o, none⟩ : Addr).add m = ⟨b, o + m, none⟩ := fun m => msgw.add_at b o m
  refine ⟨[.int .i64 L[j].1, .int .i64 L[j].2.1, .int .i64 L[j].2.2.1, .int .i64 L[j].2.2.2.1, .int .i64 L[j].2.2.2.2.1, .int .i64 L[j].2.2.2.2.2], rfl, ⟨_, _, rfl, rfl, _, _, rfl, rfl, _, _, rfl, rfl, _, _, rfl, rfl, _, _, rfl, rfl, rfl⟩, fun i u hu => ?_⟩
  rw [hadd]
  match i, hu with
  | 0, hu => simp only [List.getElem?_cons_zero, Option.some.injEq] at hu; subst hu; exact q0
  | 1, hu => simp only [List.getElem?_cons_succ, List.getElem?_cons_zero, Option.some.injEq] at hu; subst hu; exact q1
  | 2, hu => simp only [List.getElem?_cons_succ, List.getElem?_cons_zero, Option.some.injEq] at hu; subst hu; exact q2
  | 3, hu => simp only [List.getElem?_cons_succ, List.getElem?_cons_zero, Option.some.injEq] at hu; subst hu; exact q3
  | 4, hu => simp only [List.getElem?_cons_succ, List.getElem?_cons_zero, Option.some.injEq] at hu; subst hu; exact q4
  | 5, hu => simp only [List.getElem?_cons_succ, List.getElem?_cons_zero, Option.some.injEq] at hu; subst hu; exact q5
  | i + 6, hu => simp at hu
theorem fs_of_C {w : World} {A : Option Addr} {c : Nat} {l : List S43} (h : Kd.C k43 w A l.length l) (hc : l.length ≤ c) (hm : l.length ≤ maxLen) : FsAt w (.slice A l.length c) (l.map fldS) := by
  have h0 := rows_in (⟨0, ⟨#[]⟩⟩ : S43) h (fun x => [.int .i64 x.f0, .string x.f1]) (fun a c h => by obtain ⟨c0, r0, rfl, rfl, q0⟩ := h; rw [show r0 = _ from q0]; rfl) (by decide) (fun _ => rfl)
  refine ⟨by rw [List.length_map]; exact hm, A, c, by rw [List.length_map], by rw [List.length_map]; exact hc, fun i hi => ?_⟩
  obtain ⟨b, o, e, h⟩ := h0 i (by simpa using hi)
  refine ⟨b, o, e, ?_, ?_⟩
  · rw [List.getElem_map]
    exact h 0 _ rfl
  · rw [List.getElem_map]
    exact h 1 _ rfl
theorem sameOk : SameOk := by
  intro W v1 v2 F1 F2 h1 h2 hl t1 t2
  obtain ⟨p1, c1, rfl⟩ := h1.shape
  obtain ⟨p2, c2, rfl⟩ := h2.shape
  obtain ⟨a1, a2, a3⟩ := C_of_fs h1
  obtain ⟨b1, b2, b3⟩ := C_of_fs h2
  rw [a1] at a2 ⊢
  rw [b1] at b2 ⊢
  refine groatref05_Same.calls 1048601 t1 p1 c1 (F1.map unS) t2 p2 c2 (F2.map unS) _ W a3 a2 b3 b2 ((ref_same t1 t2 (F1.map unS) (F2.map unS) (by rw [List.length_map]; exact hl) _ (by decide)).trans ?_)
  rw [fld_un, fld_un]
theorem small_un {F : Flds} (hS : ∀ x ∈ F, x.2.size ≤ 1048576) : ∀ x ∈ F.map unS, x.f1.size ≤ 1048577 := fun x hx => by
  obtain ⟨y, hy, rfl⟩ := List.mem_map.1 hx
  exact Nat.le_trans (hS y hy) (by decide)
theorem refReadOk : RefReadOk := by
  intro W v F h hS hl ty
  obtain ⟨p1, c1, rfl⟩ := h.shape
  obtain ⟨a1, a2, a3⟩ := C_of_fs h
  rw [a1] at a2 ⊢
  have hr := ref_read (F.map unS) (by rw [List.length_map]; exact hl) (small_un hS) ty 1050001 (by decide)
  rw [fld_un] at hr
  have hlen := readR_len ty F
  obtain ⟨⟨vs, er⟩, eR⟩ : ∃ r, readR ty F = r := ⟨_, rfl⟩
  rw [eR] at hlen hr ⊢
  match vs, hlen with
  | [q0, q1, q2, q3, q4], _ => exact groatref20_Read.calls 1050001 ty p1 c1 (F.map unS) 0 q0 q1 q2 q3 q4 er W a3 a2 hr
theorem refAnswerOk : RefAnswerOk := by
  intro W v F pl cl L h hS hl hL hc hLl ty m dn closed
  obtain ⟨p1, c1, rfl⟩ := h.shape
  obtain ⟨a1, a2, a3⟩ := C_of_fs h
  obtain ⟨b1, b3⟩ := C_of_tots hL
  have b2 : (L.map unT).length ≤ cl := by rw [List.length_map]; exact hc
  rw [a1] at a2 ⊢
  rw [b1]
  have hr := ref_answer (F.map unS) (by rw [List.length_map]; exact hl) (small_un hS) ty m dn (L.map unT) (by rw [List.length_map]; exact hLl) closed 2200001 (by decide)
  rw [fld_un, tot_un] at hr
  refine (groatref20_Answer.calls 2200001 ty p1 c1 (F.map unS) m dn pl cl (L.map unT) closed 510 _ W a3 a2 b3 b2 hr).mono fun e w' hh => ?_
  obtain ⟨v1, rfl, hR, b⟩ := hh
  obtain ⟨A, c, rfl, hcc, hC⟩ := Kd.R_reads hR
  have hlen := answer_len4 ty F m closed L
  have hf := fs_of_C hC hcc (by rw [List.length_map]; simp only [maxLen]; omega)
  rw [fld_un] at hf
  exact ⟨A, _, c, rfl, hf, b⟩
end Go.Proofs.YtjndfmpicnkplaaGreatDoor.PureReconAnswers
