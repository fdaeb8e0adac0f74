/- Layer 5: whether two messages are the same, by the reference, in memory. Layer 5's laws: texts of one's own in regions that draw their order. Layer 5: the document's example, walked. Conditions: as each theorem says. -/
import Derived.Test.YtommklkihjmgcaaGreatDoorRSame
import Derived.Test.YtommklkihjmgcaaGreatDoorMsgX
import Derived.Test.YtommklkihjmgcaaGreatDoorDecX
import Derived.Test.YtommklkihjmgcaaGreatDoorPurX
namespace Go.Proofs.YtommklkihjmgcaaGreatDoor.msgw
open Go.RowKit Go.Proofs.YtommklkihjmgcaaGreatDoorW.PrintWords Go.Proofs.YtommklkihjmgcaaGreatDoorW.PrintLast Go.Proofs.YtommklkihjmgcaaGreatDoor.PMessageBack Go.Proofs.YtommklkihjmgcaaGreatDoor.msgp Go.Proofs.YtommklkihjmgcaaGreatDoor.buf
/-- A message's fields, as the print has them. -/
def fldS (x : S28) : Fld := (x.f0, x.f1)
theorem rd_at (l : List S28) (i : Nat) (hi : i < l.length) : rd_T28 l (i : Int) = l[i] := by
  simp [rd_T28, List.getD_eq_getElem?_getD, hi]
def unS (x : Fld) : S28 := ⟨x.1, x.2⟩
theorem fld_un (F : Flds) : (F.map unS).map fldS = F := by
  rw [List.map_map]
  exact List.map_id _
theorem ref_same_loop (t1 t2 : Int) (l1 l2 : List S28) (hl : l1.length = l2.length) (hm : l1.length ≤ 1048576) : ∀ (d k i : Nat), i + d = l1.length → d < k →
    groatref05_Same.l0 k i t1 l1 t2 l2 = some (decide ((l1.map fldS).drop i = (l2.map fldS).drop i))
  | 0, k, i, hd, hk => by
    obtain ⟨k, rfl⟩ : ∃ m, k = m + 1 := ⟨k - 1, by omega⟩
    rw [groatref05_Same.l0, if_neg (by omega), List.drop_eq_nil_of_le (by simp; omega), List.drop_eq_nil_of_le (by simp; omega)]
    simp
  | d + 1, k, i, hd, hk => by
    obtain ⟨k, rfl⟩ : ∃ m, k = m + 1 := ⟨k - 1, by omega⟩
    have h1 : i < l1.length := by omega
    have h2 : i < l2.length := by omega
    rw [groatref05_Same.l0, if_pos (by omega), if_pos (by omega), if_pos (by omega), rd_at l1 i h1, rd_at l2 i h2, List.drop_eq_getElem_cons (l := l1.map fldS) (by simpa using h1), List.drop_eq_getElem_cons (l := l2.map fldS) (by simpa using h2)]
    have ih := ref_same_loop t1 t2 l1 l2 hl hm d k (i + 1) (by omega) (by omega)
    by_cases e0 : l1[i].f0 = l2[i].f0
    · by_cases e1 : l1[i].f1 = l2[i].f1
      · rw [if_neg (by simp [e0, e1]), show wrap64 ((i : Int) + 1) = ((i + 1 : Nat) : Int) from by rw [IntWalk.wrap64_in _ ⟨by omega, by omega⟩]; rfl, ih]
        simp [fldS, e0, e1]
      · have e2 : ¬ l1[i].f1.toList = l2[i].f1.toList := fun h => e1 (by
          rw [ByteArray.toList_eq, ByteArray.toList_eq] at h
          exact ByteArray.ext (Array.ext' h))
        rw [if_pos (by simp [e0, e2])]
        simp [fldS, e1]
    · rw [if_pos (by simp [e0])]
      simp [fldS, e0]
theorem ref_same (t1 t2 : Int) (l1 l2 : List S28) (hm : l1.length ≤ 1048576) (k : Nat) (hk : 1048600 < k) : groatref05_Same.f k t1 l1 t2 l2 = some (decide (t1 = t2) && decide (l1.map fldS = l2.map fldS)) := by
  obtain ⟨k, rfl⟩ : ∃ m, k = m + 1 := ⟨k - 1, by omega⟩
  unfold groatref05_Same.f
  by_cases h : t1 = t2
  · rw [if_pos h, groatref05_Same.j0]
    by_cases h2 : l1.length = l2.length
    · rw [if_neg (by simp [h2])]
      have := ref_same_loop t1 t2 l1 l2 h2 hm l1.length k 0 (by omega) (by omega)
      simp only [List.drop_zero] at this
      rw [show ((0 : Nat) : Int) = 0 from rfl] at this
      rw [this, decide_eq_true h, Bool.true_and]
    · rw [if_pos (by simpa using fun h : (l1.length : Int) = l2.length => h2 (by omega))]
      have : ¬ l1.map fldS = l2.map fldS := fun e => h2 (by have := congrArg List.length e; simpa using this)
      simp [this]
  · rw [if_neg h, groatref05_Same.j0, if_pos rfl]
    simp [h]
theorem C_of_fs {w : World} {p : Option Addr} {n c : Nat} {F : Flds} (h : FsAt w (.slice p n c) F) : n = (F.map unS).length ∧ n ≤ c ∧ Kd.C k28 w p (F.map unS).length (F.map unS) := by
  obtain ⟨h0, p', c', h1, h2, h3⟩ := h
  simp only [Value.slice.injEq] at h1
  obtain ⟨rfl, rfl, rfl⟩ := h1
  refine ⟨by simp, h2, rfl, by rw [List.length_map]; simp only [maxLen] at h0; omega, fun hpos => ?_⟩
  have hpos' : 0 < F.length := by simpa using hpos
  obtain ⟨b, o, rfl, _, _⟩ := h3 0 hpos'
  refine ⟨_, rfl, fun j x hx => ?_⟩
  obtain ⟨y, hy, rfl⟩ : ∃ y, F[j]? = some y ∧ unS y = x := by simpa [List.getElem?_map] using hx
  obtain ⟨hj, rfl⟩ := List.getElem?_eq_some_iff.1 hy
  obtain ⟨b', o', e, q0, q1⟩ := h3 j hj
  simp only [Option.some.injEq, Addr.mk.injEq, and_true] at e
  obtain ⟨rfl, rfl⟩ := e
  have hadd : ∀ m, (⟨b, o, none⟩ : Addr).add m = ⟨b, o + m, none⟩ := fun m => by unfold Addr.add; split <;> simp_all
  refine ⟨[.int .i64 F[j].1, .string F[j].2], rfl, ⟨_, _, rfl, rfl, rfl⟩, fun i u hu => ?_⟩
  rw [hadd]
  match i, hu with
  | 0, hu => simp only [List.getElem?_cons_zero, Option.some.injEq] at hu; subst hu; exact q0
  | 1, hu => simp only [List.getElem?_cons_succ, List.getElem?_cons_zero, Option.some.injEq] at hu; subst hu; exact q1
  | i + 2, hu => simp at hu
theorem same_any {W : World} {v1 v2 : Value} {F1 F2 : Flds} (h1 : FsAt W v1 F1) (h2 : FsAt W v2 F2) (hl : F1.length ≤ 1048576) (t1 t2 : Int) :
    Calls Tryz.prog 18 #[.agg #[.int .i64 t1, v1], .agg #[.int .i64 t2, v2]] W fun e w' => e = .returned (.bool (decide (t1 = t2) && decide (F1 = F2))) ∧ Below W.heap.size W w' := by
  obtain ⟨p1, c1, rfl⟩ := h1.shape
  obtain ⟨p2, c2, rfl⟩ := h2.shape
  obtain ⟨a1, a2, a3⟩ := C_of_fs h1
  obtain ⟨b1, b2, b3⟩ := C_of_fs h2
  rw [a1] at a2 ⊢
  rw [b1] at b2 ⊢
  refine groatref05_Same.calls 1048601 t1 p1 c1 (F1.map unS) t2 p2 c2 (F2.map unS) _ W a3 a2 b3 b2 ((ref_same t1 t2 (F1.map unS) (F2.map unS) (by rw [List.length_map]; exact hl) _ (by decide)).trans ?_)
  rw [fld_un, fld_un]
end Go.Proofs.YtommklkihjmgcaaGreatDoor.msgw
namespace Go.Proofs.YtommklkihjmgcaaGreatDoor.msgw
open Go.RowKit
open Go.Proofs.YtommklkihjmgcaaGreatDoor.msgp
open Go.Proofs.YtommklkihjmgcaaGreatDoor.buf
open Go.Proofs.YtommklkihjmgcaaGreatDoor.fieldp
open Go.Proofs.YtommklkihjmgcaaGreatDoor.fieldw
open Go.Proofs.YtommklkihjmgcaaGreatDoorW.PrintWords
open Go.Proofs.YtommklkihjmgcaaGreatDoor.fieldl
theorem alloc_below (w : World) (o : Obj) : Below w.heap.size w (w.alloc o) := (Below.refl _ _).alloc (Nat.le_refl _) _
theorem drew_below (w : World) : Below w.heap.size w w.drew := ⟨rfl, rfl, rfl, Nat.le_refl _, fun _ _ => rfl⟩
theorem Txt.empty {w : World} {e lo : Nat} (h : w.heap[e]? = some (.cells #[] 5 (0, 0))) (hlo : lo ≤ e) : Txt w lo (.slice (some ⟨e, 0, none⟩) 0 0) [] := by
  refine Kd.R_of_own ⟨rfl, .inr ⟨e, 0, #[], rfl, hlo, h, Nat.le_refl _, by decide, rfl, rfl⟩⟩ (fun k hk => ?_)
  simp only [Value.ownBlock, Option.some.injEq] at hk
  omega
theorem Txt.byte {w : World} {e : Nat} {n : Int} (h : w.heap[e]? = some (.cells #[.int .u8 n] 5 (0, 0))) : Kd.C (Kd.int .u8) w (some ⟨e, 0, none⟩) 1 [n] := by
  refine ⟨rfl, by decide, fun _ => ⟨_, rfl, ?_⟩⟩
  intro j p hj
  match j, hj with
  | 0, hj =>
    have : p = n := by simpa using hj.symm
    subst this
    refine ⟨[.int .u8 p], rfl, rfl, ?_⟩
    intro i u hu
    match i, hu with
    | 0, hu => have : u = .int .u8 p := by simpa using hu.symm
               subst this; exact (cells_at h 0).trans rfl
    | i + 1, hu => simp at hu
  | j + 1, hj => simp at hj
/-- The bytes of a text are made a string. -/
theorem convC {w : World} {A : Option Addr} {c : Nat} {l : List UInt8} (h : Kd.C (Kd.int .u8) w A l.length (nums8 l)) : (convert 33 9 (.slice A l.length c)).run Tryz.prog w = .ok (.string ⟨l.toArray⟩) w := by
  by_cases h0 : l = []
  · subst h0
    cases A with
    | none => kernel_rfl
    | some ad => exact run_convert_bytes_back w _ _ 5 ad c [] Tryz.underlying33 Tryz.underlying5 Tryz.underlying9 (fun j hj => by simp at hj)
  · obtain ⟨_, _, h3⟩ := h
    obtain ⟨ad, rfl, hall⟩ := h3 (List.length_pos_iff.2 h0)
    refine run_convert_bytes_back w _ _ 5 ad c l Tryz.underlying33 Tryz.underlying5 Tryz.underlying9 (fun j hj => ?_)
    obtain ⟨cs, hc, hk, hcell⟩ := hall j ((l[j].toNat : Nat) : Int) (by simp [nums8, hj])
    have hk' : cs = [.int .u8 ((l[j].toNat : Nat) : Int)] := hk
    subst hk'
    have := hcell 0 _ rfl
    rwa [show j * (Kd.int .u8).sz + 0 = j from by show j * 1 + 0 = j; omega] at this
section
variable {ops : Array Oper} {K : Act → World → Prop} {Q : Exit → Act → World → Prop} {Er : Prop} {o : Oper} {a : Act} {W : World}
theorem step_appT (lo : Nat) (hgd : o.guard = none) (s x : Operand) (ho : o.op = .call { callee := .builtin .append, args := #[s, x], argTypes := #[33, 33] }) {v : Value} {l : List UInt8} (hs : a.eval s = v) (hT : Txt W lo v l) {A : Option Addr} {m c : Nat} {r : List UInt8} (hx : a.eval x = .slice A m c) (hC : Kd.C (Kd.int .u8) W A m (nums8 r)) (hlo : lo ≤ W.heap.size) (hl : l.length + m ≤ 140737488355328)
    (h : ∀ v' w', Txt w' lo v' (l ++ r) → Below lo W w' → W.grownBy w' v.ownBlock → K (a.put o.dst v') w') :
    if Region.wanted o (yielded ops a.tmps) = true then Oper.wp Tryz.prog o a W K Q else Er := by
  have hn : (nums8 l).length = l.length := by simp [nums8]
  have hw : Region.wanted o (yielded ops a.tmps) = true := by simp [Region.wanted, hgd]
  have key := Kd.R_append_rows_step (Kd.int .u8) (P := Tryz.prog) (ops := ops) (o := o) (a := a) (w0 := W) (W := W) (Kc := K) (Q := Q)
    lo hw s x 33 5 (.int .u8 0) 1 ho Tryz.underlying33 infoU8 rfl (by decide) (by omega) v (nums8 l) (nums8 r) A m c (fun k => lo ≤ k) (fun _ => False) hs hx hT hC (fun _ _ h => h) (fun _ h => h.elim) (fun _ h => Nat.le_trans hlo h) (Below.refl _ _) hlo (by rw [hn]; omega)
    (fun v1 w1 h1 h2 h3 _ => h v1 w1 (by unfold Txt; rw [nums8_append]; exact h1) h2 h3)
  rw [if_pos hw] at key ⊢
  exact key
theorem wpList_appT {rest : List Oper} (lo : Nat) (hgd : o.guard = none) (s x : Operand) (ho : o.op = .call { callee := .builtin .append, args := #[s, x], argTypes := #[33, 33] }) {v : Value} {l : List UInt8} (hs : a.eval s = v) (hT : Txt W lo v l) {A : Option Addr} {m c : Nat} {r : List UInt8} (hx : a.eval x = .slice A m c) (hC : Kd.C (Kd.int .u8) W A m (nums8 r)) (hlo : lo ≤ W.heap.size) (hl : l.length + m ≤ 140737488355328)
    (h : ∀ v' w', Txt w' lo v' (l ++ r) → Below lo W w' → wpList Tryz.prog ops Q rest (a.put o.dst v') w') : wpList Tryz.prog ops Q (o :: rest) a W := by
  have hn : (nums8 l).length = l.length := by simp [nums8]
  exact Kd.R_append_rows (Kd.int .u8) (w0 := W) lo hgd s x 33 5 (.int .u8 0) 1 ho Tryz.underlying33 infoU8 rfl (by decide) (by omega) v (nums8 l) (nums8 r) A m c (fun k => lo ≤ k) (fun _ => False) hs hx hT hC (fun _ _ h => h) (fun _ h => h.elim) (fun _ h => Nat.le_trans hlo h) (Below.refl _ _) hlo (by rw [hn]; omega)
    (fun v1 w1 h1 h2 _ _ => h v1 w1 (by unfold Txt; rw [nums8_append]; exact h1) h2)
end
end Go.Proofs.YtommklkihjmgcaaGreatDoor.msgw
namespace Go.Proofs.YtommklkihjmgcaaGreatDoor.msgw
open Go.RowKit
open Go.Proofs.YtommklkihjmgcaaGreatDoor.msgp
open Go.Proofs.YtommklkihjmgcaaGreatDoor.buf
open Go.Proofs.YtommklkihjmgcaaGreatDoor.fieldp
open Go.Proofs.YtommklkihjmgcaaGreatDoor.fieldw
open Go.Proofs.YtommklkihjmgcaaGreatDoorW.PrintWords
open Go.Proofs.YtommklkihjmgcaaGreatDoor.fieldl
theorem Txt.V {w : World} {lo : Nat} {v : Value} {l : List UInt8} (h : Txt w lo v l) : Kd.V (Kd.int .u8) 5 w 0 (fun k => lo ≤ k) v (nums8 l) := Kd.R_V h
/-- A message's own row. -/
def MsgIn (w : World) (b : Nat) (ty : Int) (v : Value) : Prop := w.cell? ⟨b, 0, none⟩ = some (.int .i64 ty) ∧ w.cell? ⟨b, 1, none⟩ = some v
theorem MsgIn.below {w w' : World} {b : Nat} {ty : Int} {v : Value} (h : MsgIn w b ty v) (hb : Below w.heap.size w w') : MsgIn w' b ty v := ⟨hb.keptCell h.1, hb.keptCell h.2⟩
theorem msgIn_new (w : World) (ty : Int) (v : Value) : MsgIn (w.alloc (.cells #[.int .i64 ty, v] 24)) w.heap.size ty v :=
  ⟨(cells_at (heap_alloc_last w _) 0).trans rfl, (cells_at (heap_alloc_last w _) 1).trans rfl⟩
theorem shF_at (w : World) {k : Nat} (h : w.heap[k]? = some (.cells #[.int .i64 7, .string ⟨#[48, 49, 48, 49, 48, 48, 48, 48, 48, 48]⟩, .int .i64 11, .string ⟨#[48, 48, 48, 48, 48, 49]⟩, .int .i64 70, .string ⟨#[48, 48, 49]⟩] 28 (0, 0))) : FsAt w (.slice (some ⟨k, 0, none⟩) 3 3) shF := by
  refine ⟨by decide, _, _, rfl, by decide, fun i hi => ⟨k, 0, rfl, ?_⟩⟩
  have hi' : i < 3 := hi
  obtain rfl | rfl | rfl : i = 0 ∨ i = 1 ∨ i = 2 := by omega
  · exact ⟨(cells_at h _).trans rfl, (cells_at h _).trans rfl⟩
  · exact ⟨(cells_at h _).trans rfl, (cells_at h _).trans rfl⟩
  · exact ⟨(cells_at h _).trans rfl, (cells_at h _).trans rfl⟩
theorem shF_small : ∀ x ∈ shF, x.2.size ≤ 100000000 := by decide
theorem enc_w {w : World} {v : Value} {F : Flds} (h : FsAt w v F) (hT : Tabs5 w) (hS : ∀ x ∈ F, x.2.size ≤ 100000000) (d ty : Int) {l : List UInt8} {n : Int} (hl : (encR d ty F).1 = l) (hn : (encR d ty F).2 = n) :
    Calls Tryz.prog 19 #[.int .i64 d, .agg #[.int .i64 ty, v]] w fun e w' => ∃ A c, e = .returned (.tuple #[.slice A l.length c, .int .i64 n]) ∧ Txt w' w.heap.size (.slice A l.length c) l ∧ Below w.heap.size w w' :=
  (encodeP_any h hT hS d ty).mono fun e w' h => by
    obtain ⟨bv, rfl, h2, h3⟩ := h
    rw [hl] at h2
    obtain ⟨A, c, rfl, _, _⟩ := h2.reads
    exact ⟨A, c, by rw [hn], h2, h3⟩
theorem dec_w {w : World} {bv : Value} {l : List UInt8} {lo : Nat} (hV : Txt w lo bv l) (hT : Tabs5 w) (d : Int) {ty n : Int} {F : Flds} (hd : decR d (nums8 l) = ((ty, F), n)) (hF : F.length ≤ maxLen) :
    Calls Tryz.prog 20 #[.int .i64 d, bv] w fun e w' => ∃ p c, e = .returned (.tuple #[.agg #[.int .i64 ty, .slice p F.length c], .int .i64 n]) ∧ FsAt w' (.slice p F.length c) F ∧ Below w.heap.size w w' :=
  (decodeP_any hV.V hT d).mono fun e w' h => by
    obtain ⟨fv, rfl, h2, h3⟩ := h
    rw [hd] at h2 ⊢
    have hf := h2.fs hF
    obtain ⟨p, c, rfl⟩ := hf.shape
    exact ⟨p, c, rfl, hf, h3⟩
def sh1L : List UInt8 := [48, 56, 48, 48, 56, 50, 50, 48, 48, 48, 48, 48, 48, 48, 48, 48, 48, 48, 48, 48, 48, 52, 48, 48, 48, 48, 48, 48, 48, 48, 48, 48, 48, 48, 48, 48, 48, 49, 48, 49, 48, 48, 48, 48, 48, 48, 48, 48, 48, 48, 48, 49, 48, 48, 49]
theorem sh_dec2' {l : List UInt8} (h : (encR 2 800 shF).1 = l) : decR 2 (nums8 l) = ((800, shF), 0) := by rw [← h]; exact sh_dec2
theorem sh_more2' {l : List UInt8} (h : (encR 2 800 shF).1 = l) : ∃ ty F, decR 2 (nums8 (l ++ [0])) = ((ty, F), 54) ∧ F.length ≤ maxLen := ⟨0, [], by rw [← h]; kernel_rfl, by decide⟩
theorem dec_more {w : World} {bv : Value} {l : List UInt8} {lo : Nat} (hV : Txt w lo bv (l ++ [0])) (hT : Tabs5 w) (h : (encR 2 800 shF).1 = l) :
    Calls Tryz.prog 20 #[.int .i64 2, bv] w fun e w' => ∃ ty p n c, e = .returned (.tuple #[.agg #[.int .i64 ty, .slice p n c], .int .i64 54]) ∧ Below w.heap.size w w' := by
  obtain ⟨ty, F, h1, h2⟩ := sh_more2' h
  exact (dec_w hV hT 2 h1 h2).mono fun e w' h => by
    obtain ⟨p, c, rfl, _, hb⟩ := h
    exact ⟨_, _, _, _, rfl, hb⟩
theorem same_ex {W : World} {v1 v2 : Value} (h1 : FsAt W v1 shF) (h2 : FsAt W v2 shF) :
    Calls Tryz.prog 18 #[.agg #[.int .i64 800, v1], .agg #[.int .i64 800, v2]] W fun e w' => e = .returned (.bool true) ∧ Below W.heap.size W w' :=
  (same_any h1 h2 (by decide) 800 800).mono fun e w' h => by
    rw [decide_eq_true rfl, decide_eq_true rfl] at h
    exact h
set_option maxHeartbeats 4000000 in
set_option maxRecDepth 100000 in
theorem shown_any {w : World} (hT : Tabs5 w) : Calls Tryz.prog 13 #[] w fun e w' => e = .returned (.bool true) ∧ Below w.heap.size w w' := by
  obtain ⟨wa, ea⟩ : ∃ W, w.alloc (.cells #[.int .i64 7, .string ⟨#[48, 49, 48, 49, 48, 48, 48, 48, 48, 48]⟩, .int .i64 11, .string ⟨#[48, 48, 48, 48, 48, 49]⟩, .int .i64 70, .string ⟨#[48, 48, 49]⟩] 28) = W := ⟨_, rfl⟩
  have a1 : Below w.heap.size w wa := by rw [← ea]; exact alloc_below _ _
  have hFa : FsAt wa (.slice (some ⟨w.heap.size, 0, none⟩) 3 3) shF := by rw [← ea]; exact shF_at _ (heap_alloc_last _ _)
  have hsa : wa.heap.size = w.heap.size + 1 := by rw [← ea]; simp
  obtain ⟨w0, e0⟩ : ∃ W, wa.alloc (.cells #[.int .i64 800, .slice (some ⟨w.heap.size, 0, none⟩) 3 3] 24) = W := ⟨_, rfl⟩
  have a2 : Below wa.heap.size wa w0 := by rw [← e0]; exact alloc_below _ _
  have b0 := a1.trans (a2.mono a1.size)
  have hF0 := hFa.below a2
  have hM0 : MsgIn w0 (w.heap.size + 1) 800 (.slice (some ⟨w.heap.size, 0, none⟩) 3 3) := by
    have := msgIn_new wa 800 (.slice (some ⟨w.heap.size, 0, none⟩) 3 3)
    rw [e0, hsa] at this
    exact this
  rw [← ea] at e0
  have HB0 := Lib.hid b0
  have HF := Lib.hid hF0
  have HM := Lib.hid hM0
  have HT0 := Lib.hid (hT.below b0)
  have E0 := Lib.hid e0
  obtain ⟨L2, eL2⟩ : ∃ l, (encR 2 800 shF).1 = l := ⟨_, rfl⟩
  have hl2 : L2.length = 28 := by rw [← eL2]; exact sh_len2
  have HL2 := Lib.hid eL2
  have HN2 := Lib.hid hl2
  obtain ⟨m0, m1⟩ := hM0
  clear a1 a2 b0 hF0 hFa hsa hT e0 eL2 hl2 ea
  go_enter Tryz.func13, Tryz.ntmps13
  go_wp2_with fail
  rw [E0.out]
  refine (enc_w HF.out HT0.out shF_small 1 800 (l := sh1L) (n := 0) sh_enc1 sh_err1).mono ?_
  rintro e w1 ⟨A1, c1, rfl, hT1, b1⟩
  have HX1 := Lib.hid hT1
  have HM1 := Lib.hid (HM.out.below b1)
  have HF1 := Lib.hid (HF.out.below b1)
  have HTb1 := Lib.hid (HT0.out.below b1)
  have HB1 := Lib.hid (HB0.out.trans (b1.mono HB0.out.size))
  clear m0 m1 hT1 b1 HM HF HT0 HB0 E0
  obtain ⟨m0, m1⟩ := HM1.out
  go_wp2_with fail
  refine (enc_w HF1.out HTb1.out shF_small 2 800 HL2.out sh_err2).mono ?_
  rintro e w2 ⟨A2, c2, rfl, hT2, b2⟩
  have HX2 := Lib.hid (HX1.out.below b2)
  have HY2 := Lib.hid hT2
  have HM2 := Lib.hid (HM1.out.below b2)
  have HF2 := Lib.hid (HF1.out.below b2)
  have HTb2 := Lib.hid (HTb1.out.below b2)
  have HB2 := Lib.hid (HB1.out.trans (b2.mono HB1.out.size))
  clear m0 m1 hT2 b2 HM1 HF1 HTb1 HB1 HX1
  go_wp2_with fail
  refine (dec_w HY2.out HTb2.out 2 (sh_dec2' HL2.out) (by decide)).mono ?_
  rintro e w3 ⟨p3, c3, rfl, hF3, b3⟩
  obtain ⟨w4, e4⟩ : ∃ W, w3.alloc (.cells #[.int .i64 800, .slice p3 shF.length c3] 24) = W := ⟨_, rfl⟩
  have b4 : Below w3.heap.size w3 w4 := by rw [← e4]; exact alloc_below _ _
  have b34 := b3.trans (b4.mono b3.size)
  have HX4 := Lib.hid (HX2.out.below b34)
  have HY4 := Lib.hid (HY2.out.below b34)
  have HM4 := Lib.hid (HM2.out.below b34)
  have HF4 := Lib.hid (HF2.out.below b34)
  have HTb4 := Lib.hid (HTb2.out.below b34)
  have HB4 := Lib.hid (HB2.out.trans (b34.mono HB2.out.size))
  have HG4 := Lib.hid (hF3.below b4)
  have HN4 := Lib.hid (show MsgIn w4 w3.heap.size 800 (.slice p3 shF.length c3) by rw [← e4]; exact msgIn_new _ _ _)
  have E4 := Lib.hid e4
  obtain ⟨w5, e5⟩ : ∃ W, w4.alloc (.cells #[] 5) = W := ⟨_, rfl⟩
  have b5 : Below w4.heap.size w4 w5 := by rw [← e5]; exact alloc_below _ _
  have hs4 : w4.heap.size = w3.heap.size + 1 := by rw [← e4]; simp
  have HE5 := Lib.hid (show Txt w5 w4.heap.size (.slice (some ⟨w3.heap.size + 1, 0, none⟩) 0 0) [] from Txt.empty (by rw [← hs4, ← e5]; exact heap_alloc_last _ _) (by omega))
  have HC5 := Lib.hid (HY4.out.below b5)
  obtain ⟨A2', c2', ev2, _, hC2⟩ := HC5.out.reads
  obtain ⟨rfl, rfl⟩ : A2 = A2' ∧ c2 = c2' := by simp only [Value.slice.injEq] at ev2; exact ⟨ev2.1, ev2.2.2⟩
  have HD5 := Lib.hid hC2
  have HB5 := Lib.hid b5
  have E5 := Lib.hid (show (w3.alloc (.cells #[.int .i64 800, .slice p3 shF.length c3] 24)).alloc (.cells #[] 5) = w5 by rw [e4]; exact e5)
  clear hF3 b3 b4 b34 e4 b5 e5 hs4 ev2 hC2 HX2 HY2 HM2 HF2 HTb2 HB2
  have HN28 := Lib.hid (show L2.length ≤ 1000 by rw [HN2.out]; decide)
  go_wp2_with (first
    | ((with_reducible refine gate_builtin (b := .append) (xs := #[.tmp 31, .tmp 32]) rfl ?_); at_builtin; rw [E5.out]; refine wpList_appT w4.heap.size rfl (.tmp 31) (.tmp 32) rfl rfl HE5.out rfl HD5.out HB5.out.size (by have := HN28.out; simp only [List.length_nil]; omega) ?_; intro v6 w6 h6 b6; have H6 := Lib.hid h6; have B6 := Lib.hid b6; clear h6 b6; have b7 := alloc_below w6 (.cells #[.int .u8 0] 5); have H7 := Lib.hid (H6.out.below b7); have B7 := Lib.hid (B6.out.trans (b7.mono (Nat.le_trans HB5.out.size B6.out.size))); have K7 := Lib.hid (Txt.byte (heap_alloc_last w6 (.cells #[.int .u8 0] 5))); clear b7)
    | ((with_reducible refine gate_builtin (b := .append) (xs := #[.tmp 33, .tmp 34]) rfl ?_); at_builtin; refine wpList_appT w4.heap.size rfl (.tmp 33) (.tmp 34) rfl rfl H7.out rfl (r := [0]) K7.out (Nat.le_trans HB5.out.size B7.out.size) (by have := HN28.out; simp only [List.length_append, List.length_nil]; omega) ?_; intro v8 w8 h8 b8; have H8 := Lib.hid h8; have B8 := Lib.hid b8; clear h8 b8))
  have hb48 := (HB5.out.trans B7.out).trans (B8.out.mono (Nat.le_refl _))
  refine (dec_more H8.out (HTb4.out.below hb48) HL2.out).mono ?_
  rintro e w9 ⟨ty9, p9, n9, c9, rfl, b9⟩
  obtain ⟨w10, e10⟩ : ∃ W, w9.alloc (.cells #[.int .i64 ty9, .slice p9 n9 c9] 24) = W := ⟨_, rfl⟩
  have b10 : Below w9.heap.size w9 w10 := by rw [← e10]; exact alloc_below _ _
  have b410 := hb48.trans ((b9.trans (b10.mono b9.size)).mono hb48.size)
  have hX := HX4.out.below b410
  obtain ⟨A1', c1', ev1, _, hC1⟩ := hX.reads
  obtain ⟨rfl, rfl⟩ : A1 = A1' ∧ c1 = c1' := by simp only [Value.slice.injEq] at ev1; exact ⟨ev1.1, ev1.2.2⟩
  have hcv : (convert 33 9 (.slice A1 sh1L.length c1)).run Tryz.prog w10 = .ok (.string ⟨#[48, 56, 48, 48, 56, 50, 50, 48, 48, 48, 48, 48, 48, 48, 48, 48, 48, 48, 48, 48, 48, 52, 48, 48, 48, 48, 48, 48, 48, 48, 48, 48, 48, 48, 48, 48, 48, 49, 48, 49, 48, 48, 48, 48, 48, 48, 48, 48, 48, 48, 48, 49, 48, 48, 49]⟩) w10 := convC hC1
  have HM10 := Lib.hid (HM4.out.below b410)
  have HF10 := Lib.hid (HF4.out.below b410)
  have HG10 := Lib.hid (HG4.out.below b410)
  have HN10 := Lib.hid (HN4.out.below b410)
  have HB10 := Lib.hid (HB4.out.trans (b410.mono HB4.out.size))
  clear hb48 b9 b10 b410 hX ev1 hC1 HX4 HM4 HF4 HG4 HN4 HB4 E4 HY4 HTb4 HE5 HC5 HD5 HB5 E5 H6 B6 H7 B7 K7 H8 B8
  obtain ⟨m0, m1⟩ := HM10.out
  obtain ⟨n0, n1⟩ := HN10.out
  have hn28 : (L2.length : Int) = 28 := by rw [HN2.out]; rfl
  subst e10
  go_wp2_with fail
  refine (same_ex HG10.out HF10.out).mono ?_
  rintro e w11 ⟨rfl, b11⟩
  have HB11 := Lib.hid (HB10.out.trans (b11.mono HB10.out.size))
  clear b11 m0 m1 n0 n1 hcv
  go_wp2_with fail
  go_ret
  exact ⟨rfl, HB11.out⟩
end Go.Proofs.YtommklkihjmgcaaGreatDoor.msgw
