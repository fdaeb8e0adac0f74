/- Walks of layer 3's statements: PlantMakes. Conditions: as each theorem says. -/
import Derived.Test.YtpnijopbbbgffaaRefD
import Derived.WalkLawsBesides
namespace Go.Proofs.Ytpnijopbbbgffaa.plantw
open Go.RowKit
open Go.Proofs.Ytpnijopbbbgffaa.plantp
open Go.Proofs.Ytpnijopbbbgffaa.mapfn
open Go.Proofs.Ytpnijopbbbgffaa.buf
theorem exec_append_run {P : Program} {w w' : World} {o : Oper} {a : Act} (s x : Operand) (t : TypeId) (ho : o.op = .call { callee := .builtin .append, args := #[s, x], argTypes := #[t, t] }) (V X r : Value) (hs : a.eval s = V) (hx : a.eval x = X) (hr : (Builtin.append_ #[t, t] o.type #[V, X]).run P w = .ok r w') : (execOp a.eval o).run P w = .ok (.value r) w' := by
  unfold execOp
  simp only [ho, resolve, invoke, builtin, Sem.run_bind, Sem.run_pure, Result.andThen_ok, List.map_toArray, List.map_cons, List.map_nil, hs, hx, hr]
set_option maxHeartbeats 4000000 in
set_option maxRecDepth 100000 in
theorem makes_walk (w : World) {A : Option Addr} {c : Nat} {zs : List Int} (hz : zs.length ≤ 1048576) (h : IntsAt w (.slice A zs.length c) zs) :
    Calls Try.prog 5 #[.slice A zs.length c] w fun e w' => e = .returned (.bool true) ∧ Below w.heap.size w w' := by
  have HS := Lib.hid (shown_any w)
  obtain ⟨v, ev⟩ : ∃ v, Value.slice A zs.length c = v := ⟨_, rfl⟩
  rw [ev] at h ⊢
  have EV := Lib.hid ev
  have H0 := Lib.hid h
  clear h ev
  go_enter Try.func5, Try.ntmps5
  go_wp2_with fail
  refine HS.out.mono ?_
  rintro e w1 ⟨rfl, b1⟩
  obtain ⟨B, cap, w2, hr, b2, hB, hcap, hI, hcur⟩ := own_made (H0.out.below b1) hz 28
  have HR := Lib.hid hr
  have HI := Lib.hid hI
  have HCUR := Lib.hid hcur
  have b12 := b1.trans (b2.mono b1.size)
  have B12 := Lib.hid b12
  have B2 := Lib.hid (And.intro b1 b2)
  clear hr hI hcur b12 b1 b2 HS
  go_wp2_with (refine wpList_run rfl _ (exec_append_run (.tmp 16) (.tmp 17) 28 rfl _ _ _ rfl rfl HR.out) ?_)
  have b1 := B2.out.1
  have HN := Lib.hid (new_any HI.out)
  refine HN.out.mono ?_
  rintro e w3 ⟨b3, hn⟩
  have HN3 := Lib.hid hn
  have hI3 := H0.out.below (B12.out.trans (b3.mono B12.out.size))
  have HI3 := Lib.hid hI3
  have B3 := Lib.hid b3
  clear hn hI3 b3 HN
  rcases HN3.out with ⟨hm, rfl⟩ | ⟨hm, g, O, rfl, hP, hO⟩
  · go_wp2_with fail
    refine (rnew_any HI3.out).mono ?_
    rintro e w4 ⟨b4, ⟨_, rfl⟩ | ⟨h, _⟩⟩
    · have B4 := Lib.hid b4
      clear b4 hm b1
      go_wp2_with fail
      go_ret
      have h3 := B12.out.trans (B3.out.mono B12.out.size)
      exact ⟨rfl, h3.trans (B4.out.mono h3.size)⟩
    · rw [hm] at h; cases h
  · have HP := Lib.hid hP
    have HO := Lib.hid hO
    clear hP hO
    go_wp2_with fail
    refine (rnew_any HI3.out).mono ?_
    rintro e w4 ⟨b4, ⟨h, _⟩ | ⟨_, g2, rfl, hR⟩⟩
    · rw [hm] at h; cases h
    · have hzs : zs ≠ [] := fun e => by subst e; simp [mayB] at hm
      obtain ⟨cur0, hc0, hcl0⟩ := HCUR.out hzs
      have hBl : B < w2.heap.size := (Array.getElem?_eq_some_iff.1 hc0).1
      have hz1 : ∀ i (hi : i < zs.length), 1 ≤ zs[i] := fun i hi => by
        simp only [mayB, Bool.and_eq_true, List.all_eq_true, decide_eq_true_eq] at hm
        exact (hm.2 zs[i] (List.getElem_mem hi)).1
      have hc4 : w4.heap[B]? = some (.cells cur0 3 (0, 0)) := ((b4.block B (by have := B3.out.size; omega)).trans (B3.out.block B hBl)).trans hc0
      -- whatever is done to the caller's own row: both answer Len alike
      have hend : ∀ W, Turn [B] w4 W → (∀ dev : Int, Calls Try.prog 20 #[.pointer (some ⟨g, 0, none⟩), .int .i64 dev] W fun e w' => e = .returned (.tuple #[.int .i64 (if dev < 0 ∨ (zs.length : Int) ≤ dev then 0 else ((zs.map Int.toNat).getD dev.toNat 0 : Nat)), .int .i64 (if dev < 0 ∨ (zs.length : Int) ≤ dev then 31 else 0)]) ∧ w' = W) ∧
          (∀ dev : Int, Calls Try.prog 21 #[.pointer (some ⟨g2, 0, none⟩), .int .i64 dev] W fun e w' => e = .returned (.tuple #[.int .i64 (if dev < 0 ∨ (zs.length : Int) ≤ dev then 0 else ((zs.map Int.toNat).getD dev.toNat 0 : Nat)), .int .i64 (if dev < 0 ∨ (zs.length : Int) ≤ dev then 31 else 0)]) ∧ w' = W) := fun W hW => by
        have hP4 := (HP.out.below b4).turn hW (fun k hk hm => by
          obtain rfl := List.mem_singleton.1 hm
          have := HO.out k hk
          omega)
        obtain ⟨vM, vH, hv, hbs, hR⟩ := hR
        have hg2 := hR.new g2 (by simp)
        have hw3 := B3.out.size
        have hblk : RBlk W g2 vM vH (.slice none 0 0) false false 0 0 := (hW.block g2 (hR.lt g2 (by simp)) (by simp; omega)).trans hR.blk
        have hmst : MostAt W vM (zs.map Int.toNat) := by
          obtain ⟨q1, ⟨q2, _⟩ | ⟨b', cap', cu, hv', q3, q4, q5, q6, q7, q8⟩⟩ := hR.most
          · exact absurd (List.eq_nil_of_length_eq_zero q2) hzs
          · have hbn : w3.heap.size ≤ b' := hR.new b' (by rw [hv']; simp [bufBlock]; omega)
            have hb4 := (Array.getElem?_eq_some_iff.1 q3).1
            have q3' : W.heap[b']? = some (.cells cu 3 (0, 0)) := (hW.block b' hb4 (by simp; omega)).trans q3
            refine ⟨b', cap', by rw [hv', List.length_map], (Array.getElem?_eq_some_iff.1 q3').1, fun i hi => ?_⟩
            have hi' : i < zs.length := by simpa using hi
            rw [cells_at q3', take_get q8 (by omega)]
            have := hz1 i hi'
            simp [hi']
            omega
        refine ⟨fun dev => ?_, fun dev => ?_⟩
        · have := len_is hP4 dev
          simpa [PS.new] using this
        · have := rlen_any hblk hmst dev
          simpa using this
      have HEND := Lib.hid hend
      have hce : ∃ cur, w4.heap[B]? = some (.cells cur 3 (0, 0)) ∧ zs.length ≤ cur.size := ⟨cur0, hc4, hcl0⟩
      have HC4 := Lib.hid hce
      have hBB : w.heap.size ≤ B := by have := B2.out.1.size; omega
      have HBB := Lib.hid hBB
      have h3 := B12.out.trans (B3.out.mono B12.out.size)
      have H4 := Lib.hid (h3.trans (b4.mono h3.size))
      have ev := EV.out
      subst ev
      clear hend hce hc4 hcl0 hc0 hR hBB h3 b4 hz1 hzs hm hBl b1
      go_wp2_with fail
      go_loopw [9] (fun i wr => ∃ k : Nat, k ≤ zs.length ∧ i = .int .i64 k ∧ Turn [B] w4 wr ∧ ∃ cur, wr.heap[B]? = some (.cells cur 3 (0, 0)) ∧ zs.length ≤ cur.size) (fun i _ => zs.length - (intOf i).toNat)
      case atStart => exact ⟨0, by omega, rfl, Turn.refl _ _, HC4.out⟩
      case round =>
        obtain ⟨k, hk, rfl, ht, cur, hcur, hcl⟩ := hrel
        have hkm : (k : Int) ≤ 1048576 := by omega
        by_cases hlt : k < zs.length
        · have hlt' : (k : Int) < zs.length := by omega
          have f1 : wr.cell? ⟨B, k, none⟩ = some cur[k] := by rw [cells_at hcur]; simp [show k < cur.size by omega]
          have f2 : wr.frozen? ⟨B, k, none⟩ = false := frozen_at hcur _
          obtain ⟨y, ey⟩ : ∃ y, cur[k] = y := ⟨_, rfl⟩
          rw [ey] at f1
          have HT := Lib.hid ht
          have HCUR2 := Lib.hid hcur
          have HCL := Lib.hid hcl
          clear ht hcur hcl ey
          go_wp2_with fail
          go_roundw
          case rel => exact ⟨k + 1, by omega, by go_num, HT.out.set (.inl (by simp)) _ _, _, heap_set HCUR2.out _ _, by simpa using HCL.out⟩
          case measure => simp [intOf]; omega
        · obtain rfl : k = zs.length := by omega
          have hlt' : ¬ (zs.length : Int) < zs.length := by omega
          have HL := Lib.hid (HEND.out wr ht)
          have HBW := Lib.hid (H4.out.trans ((ht.below (B := w.heap.size) H4.out.size (by intro k hk; obtain rfl := List.mem_singleton.1 hk; exact HBB.out))))
          clear ht hcur hcl
          go_wp2_with fail
          obtain ⟨W5, e5⟩ : ∃ W, W = wr := ⟨_, rfl⟩
          rw [← e5]
          rw [← e5] at HL HBW
          clear e5
          go_loopw [10] (fun i wr => ∃ d : Int, -1 ≤ d ∧ d ≤ zs.length + 1 ∧ i = .int .i64 d ∧ wr = W5) (fun i _ => (zs.length + 1 - intOf i).toNat)
          case atStart => exact ⟨-1, by omega, by omega, rfl, rfl⟩
          case round =>
            obtain ⟨d, hd0, hd1, rfl, rfl⟩ := hrel
            by_cases hdl : d ≤ zs.length
            · have H1 := HL.out.1 d
              have H2 := HL.out.2 d
              obtain ⟨r1, er1⟩ : ∃ r : Int, (if d < 0 ∨ (zs.length : Int) ≤ d then 0 else (((zs.map Int.toNat).getD d.toNat 0 : Nat) : Int)) = r := ⟨_, rfl⟩
              obtain ⟨r2, er2⟩ : ∃ r : Int, (if d < 0 ∨ (zs.length : Int) ≤ d then (31 : Int) else 0) = r := ⟨_, rfl⟩
              rw [er1, er2] at H1 H2
              have K1 := Lib.hid H1
              have K2 := Lib.hid H2
              clear H1 H2 er1 er2
              go_wp2_with fail
              refine K1.out.mono ?_
              rintro e x ⟨rfl, rfl⟩
              go_wp2_with fail
              refine K2.out.mono ?_
              rintro e x ⟨rfl, rfl⟩
              go_wp2_with fail
              go_roundw
              case rel => exact ⟨d + 1, by omega, by omega, by go_num, trivial⟩
              case measure => simp [intOf]; omega
            · go_wp2_with fail
              go_ret
              exact ⟨rfl, HBW.out⟩
end Go.Proofs.Ytpnijopbbbgffaa.plantw
