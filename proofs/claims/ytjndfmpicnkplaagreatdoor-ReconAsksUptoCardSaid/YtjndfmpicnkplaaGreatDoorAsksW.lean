/- Layer 20: ReconAsks, walked. Conditions: as each theorem says. -/
import Derived.Test.YtjndfmpicnkplaaGreatDoorRefAsk
import Derived.Test.YtjndfmpicnkplaaGreatDoorRecY
namespace Go.Proofs.YtjndfmpicnkplaaGreatDoor.PureReconAsks
open Go.RowKit Go.Proofs.YtjndfmpicnkplaaGreatDoorW.PrintWords Go.Proofs.YtjndfmpicnkplaaGreatDoorW.PrintLast Go.Proofs.YtjndfmpicnkplaaGreatDoor.PReconAsks Go.Proofs.YtjndfmpicnkplaaGreatDoor.fieldp Go.Proofs.YtjndfmpicnkplaaGreatDoor.fieldw Go.Proofs.YtjndfmpicnkplaaGreatDoor.fieldl Go.Proofs.YtjndfmpicnkplaaGreatDoor.msgp Go.Proofs.YtjndfmpicnkplaaGreatDoor.msgw Go.Proofs.YtjndfmpicnkplaaGreatDoor.buf
theorem C_of_fs {w : World} {p : Option Addr} {n c : Nat} {F : Flds} (h : FsAt w (.slice p n c) F) : n = (F.map unS).length ∧ n ≤ c ∧ Kd.C k43 w p (F.map unS).length (F.map unS) := by
  obtain ⟨h0, p', c', h1, h2, h3⟩ := h
  simp only [Value.slice.injEq] at h1
  obtain ⟨rfl, rfl, rfl⟩ := h1
  refine ⟨by simp, h2, rfl, by rw [List.length_map]; simp only [maxLen] at h0; omega, fun hpos => ?_⟩
  have hpos' : 0 < F.length := by simpa using hpos
  obtain ⟨b, o, rfl, _, _⟩ := h3 0 hpos'
  refine ⟨_, rfl, fun j x hx => ?_⟩
  obtain ⟨y, hy, rfl⟩ : ∃ y, F[j]? = some y ∧ unS y = x := by simpa [List.getElem?_map] using hx
  obtain ⟨hj, rfl⟩ := List.getElem?_eq_some_iff.1 hy
  obtain ⟨b', o', e, q0, q1⟩ := h3 j hj
  simp only [Option.some.injEq, Addr.mk.injEq, and_true] at e
  obtain ⟨rfl, rfl⟩ := e
  have hadd : ∀ m, (⟨b, o, none⟩ : Addr).add m = ⟨b, o + m, none⟩ := fun m => msgw.add_at b o m
  refine ⟨[.int .i64 F[j].1, .string F[j].2], rfl, ⟨_, _, rfl, rfl, rfl⟩, fun i u hu => ?_⟩
  rw [hadd]
  match i, hu with
  | 0, hu => simp only [List.getElem?_cons_zero, Option.some.injEq] at hu; subst hu; exact q0
  | 1, hu => simp only [List.getElem?_cons_succ, List.getElem?_cons_zero, Option.some.injEq] at hu; subst hu; exact q1
  | i + 2, hu => simp at hu
theorem ask_v {w : World} (hT : Tabs w) (code when stan : ByteArray) (mem t0 t1 t2 t3 t4 : Int) (s0 : code.size ≤ 1048576) (s1 : when.size ≤ 1048576) (s2 : stan.size ≤ 1048576) (h0 : okI t0) (h1 : okI t1) (h2 : okI t2) (h3 : okI t3) (h4 : okI t4)
    {ty er : Int} {l : List S43} (hv : askV (askR code when stan (t0, t1, t2, t3, t4)) = (ty, l, er)) :
    Calls Tryz.prog 6 #[.string code, .string when, .string stan, .agg #[.int .i64 mem, .int .i64 t0, .int .i64 t1, .int .i64 t2, .int .i64 t3, .int .i64 t4]] w fun e w' => ∃ p c, e = .returned (.tuple #[.agg #[.int .i64 ty, .slice p l.length c], .int .i64 er]) ∧ l.length ≤ c ∧ Kd.C k43 w' p l.length l ∧ Below w.heap.size w w' :=
  (ask_all hT code when stan mem t0 t1 t2 t3 t4 (by omega) (by omega) (by omega) h0 h1 h2 h3 h4).mono fun e w' h => by
    rcases h with ⟨rfl, b, hn⟩ | ⟨F, p, c, ha, _, _, rfl, hF, b⟩
    · rw [hn] at hv
      simp only [askV, Prod.mk.injEq] at hv
      obtain ⟨rfl, rfl, rfl⟩ := hv
      exact ⟨none, 0, rfl, Nat.le_refl _, Kd.C_nil _ _, b⟩
    · rw [ha] at hv
      simp only [askV, Prod.mk.injEq] at hv
      obtain ⟨rfl, rfl, rfl⟩ := hv
      obtain ⟨g1, g2, g3⟩ := C_of_fs hF
      rw [g1] at g2 ⊢
      exact ⟨p, c, rfl, g2, g3, b⟩
theorem ref_v {w : World} (code when stan : ByteArray) (mem t0 t1 t2 t3 t4 : Int) (s0 : code.size ≤ 1048576) (s1 : when.size ≤ 1048576) (s2 : stan.size ≤ 1048576) (h0 : okI t0) (h1 : okI t1) (h2 : okI t2) (h3 : okI t3) (h4 : okI t4)
    {ty er : Int} {l : List S43} (hv : askV (askR code when stan (t0, t1, t2, t3, t4)) = (ty, l, er)) :
    Calls Tryz.prog 7 #[.string code, .string when, .string stan, .agg #[.int .i64 mem, .int .i64 t0, .int .i64 t1, .int .i64 t2, .int .i64 t3, .int .i64 t4]] w fun e w' => ∃ p c, e = .returned (.tuple #[.agg #[.int .i64 ty, .slice p l.length c], .int .i64 er]) ∧ l.length ≤ c ∧ Kd.C k43 w' p l.length l ∧ Below w.heap.size w w' :=
  (groatref20_Ask.calls 1050001 code when stan mem t0 t1 t2 t3 t4 ty l er w ((ref_ask code when stan mem t0 t1 t2 t3 t4 h0 h1 h2 h3 h4 s0 s1 s2 _ (by decide)).trans (by rw [hv]))).mono fun e w' h => by
    obtain ⟨v, rfl, hR, b⟩ := h
    obtain ⟨A, c, rfl, hl, hC⟩ := Kd.R_reads hR
    exact ⟨A, c, rfl, hl, hC, b⟩
theorem askV_len (code when stan : ByteArray) (t : Five) : (askV (askR code when stan t)).2.1.length ≤ 8 := by
  cases e : askR code when stan t with
  | none => exact Nat.zero_le _
  | some F =>
    have ha : askF code when stan t = some F := by
      unfold askR at e
      cases e2 : askF code when stan t with
      | none => rw [e2] at e; cases e
      | some G =>
        rw [e2, Option.bind_some] at e
        split at e
        · exact e
        · cases e
    show (F.map unS).length ≤ 8
    rw [List.length_map, ask_len8 ha]
    exact Nat.le_refl _
set_option maxHeartbeats 4000000 in
set_option maxRecDepth 100000 in
theorem asks_any {w : World} (hT : Tabs w) (code when stan : ByteArray) (mem t0 t1 t2 t3 t4 : Int) (s0 : code.size ≤ 1048576) (s1 : when.size ≤ 1048576) (s2 : stan.size ≤ 1048576) (h0 : okI t0) (h1 : okI t1) (h2 : okI t2) (h3 : okI t3) (h4 : okI t4) :
    Calls Tryz.prog 3 #[.agg #[.string code, .string when, .string stan, .int .i64 mem, .int .i64 t0, .int .i64 t1, .int .i64 t2, .int .i64 t3, .int .i64 t4]] w fun e w' => e = .returned (.bool true) ∧ Below w.heap.size w w' := by
  obtain ⟨B, eB⟩ : ∃ b, w.heap.size = b := ⟨_, rfl⟩
  have b0 : Below w.heap.size w (w.alloc (.cells #[.string code, .string when, .string stan, .int .i64 mem, .int .i64 t0, .int .i64 t1, .int .i64 t2, .int .i64 t3, .int .i64 t4] 25)) := alloc_below _ _
  have k0 : StIn (w.alloc (.cells #[.string code, .string when, .string stan, .int .i64 mem, .int .i64 t0, .int .i64 t1, .int .i64 t2, .int .i64 t3, .int .i64 t4] 25)) B code when stan mem (t0, t1, t2, t3, t4) := by
    have hk := heap_alloc_last w (.cells #[.string code, .string when, .string stan, .int .i64 mem, .int .i64 t0, .int .i64 t1, .int .i64 t2, .int .i64 t3, .int .i64 t4] 25)
    rw [← eB]
    exact ⟨(cells_at hk 0).trans rfl, (cells_at hk 1).trans rfl, (cells_at hk 2).trans rfl, (cells_at hk 3).trans rfl, (cells_at hk 4).trans rfl, (cells_at hk 5).trans rfl, (cells_at hk 6).trans rfl, (cells_at hk 7).trans rfl, (cells_at hk 8).trans rfl⟩
  have hlen := askV_len code when stan (t0, t1, t2, t3, t4)
  obtain ⟨⟨ty, l, er⟩, eV⟩ : ∃ r, askV (askR code when stan (t0, t1, t2, t3, t4)) = r := ⟨_, rfl⟩
  rw [eV] at hlen
  have HV := Lib.hid eV
  have HLEN := Lib.hid hlen
  have HC := Lib.hid (shown_any (hT.below b0))
  have HT := Lib.hid (hT.below b0)
  have HB0 := Lib.hid b0
  have K0 := Lib.hid k0
  have HO := Lib.hid (And.intro (And.intro s0 (And.intro s1 s2)) (And.intro h0 (And.intro h1 (And.intro h2 (And.intro h3 h4)))))
  clear hT b0 k0 s0 s1 s2 h0 h1 h2 h3 h4 eV hlen
  go_enter Tryz.func3, Tryz.ntmps3
  go_wp2_with fail
  refine HC.out.mono ?_
  rintro e w1 ⟨rfl, b1⟩
  have HK := Lib.hid (K0.out.below b1)
  obtain ⟨c0, c1, c2, c3, c4, c5, c6, c7, c8⟩ := HK.out
  have HT1 := Lib.hid (HT.out.below b1)
  have HB1 := Lib.hid (HB0.out.trans (b1.mono HB0.out.size))
  clear HT HB0 K0 HC b1
  go_wp2_with fail
  refine (ask_v HT1.out code when stan mem t0 t1 t2 t3 t4 HO.out.1.1 HO.out.1.2.1 HO.out.1.2.2 HO.out.2.1 HO.out.2.2.1 HO.out.2.2.2.1 HO.out.2.2.2.2.1 HO.out.2.2.2.2.2 HV.out).mono ?_
  clear c0 c1 c2 c3 c4 c5 c6 c7 c8
  rintro e w2 ⟨p1, n1, rfl, q1, C1, b1⟩
  have b2 := b1.trans ((alloc_below w2 (.cells #[.int .i64 ty, .slice p1 l.length n1] 29)).mono b1.size)
  have HK2 := Lib.hid (HK.out.below b2)
  obtain ⟨c0, c1, c2, c3, c4, c5, c6, c7, c8⟩ := HK2.out
  have HM1 := Lib.hid (msgIn_new w2 ty (.slice p1 l.length n1))
  have HC1 := Lib.hid (And.intro q1 (Kd.C_below C1 (alloc_below w2 (.cells #[.int .i64 ty, .slice p1 l.length n1] 29))))
  have HB2 := Lib.hid (HB1.out.trans (b2.mono HB1.out.size))
  clear HK HT1 HB1 b1 b2 C1 q1
  go_wp2_with fail
  refine (ref_v code when stan mem t0 t1 t2 t3 t4 HO.out.1.1 HO.out.1.2.1 HO.out.1.2.2 HO.out.2.1 HO.out.2.2.1 HO.out.2.2.2.1 HO.out.2.2.2.2.1 HO.out.2.2.2.2.2 HV.out).mono ?_
  clear c0 c1 c2 c3 c4 c5 c6 c7 c8 HK2
  rintro e w3 ⟨p2, n2, rfl, q2, C2, b1⟩
  have b2 := b1.trans ((alloc_below w3 (.cells #[.int .i64 ty, .slice p2 l.length n2] 29)).mono b1.size)
  obtain ⟨m0, m1⟩ := HM1.out.below b2
  have HC2 := Lib.hid (And.intro q2 (Kd.C_below C2 (alloc_below w3 (.cells #[.int .i64 ty, .slice p2 l.length n2] 29))))
  have HC3 := Lib.hid (And.intro HC1.out.1 (Kd.C_below HC1.out.2 b2))
  have HB3 := Lib.hid (HB2.out.trans (b2.mono HB2.out.size))
  clear HB2 b1 b2 C2 q2 HC1 HM1
  go_wp2_with fail
  refine (groatref05_Same.calls 1048601 ty p1 n1 l ty p2 n2 l true _ HC3.out.2 HC3.out.1 HC2.out.2 HC2.out.1 ((ref_same ty ty l l (by have := HLEN.out; omega) _ (by decide)).trans (by simp))).mono ?_
  rintro e w4 ⟨rfl, b1⟩
  have HB4 := Lib.hid (HB3.out.trans (b1.mono HB3.out.size))
  clear b1 HB3 m0 m1
  go_wp2_with fail
  go_ret
  exact ⟨rfl, HB4.out⟩
end Go.Proofs.YtjndfmpicnkplaaGreatDoor.PureReconAsks
