/- Layer 11: Add. Conditions: as each theorem says. -/
import Derived.Test.YthfncbnokjikfaaDoorRtD
import Derived.Deep.RegionHeld3
namespace Go.Proofs.YthfncbnokjikfaaDoor.routew
open Go.RowKit
open Go.Proofs.YthfncbnokjikfaaDoor.routep
open Go.Proofs.YthfncbnokjikfaaDoor.mapfn
open Go.Proofs.YthfncbnokjikfaaDoor.buf
theorem _root_.Go.RowKit.Below.keptCell {w w' : World} {x i : Nat} {u : Value} (t : Below w.heap.size w w') (h : w.cell? ⟨x, i, none⟩ = some u) : w'.cell? ⟨x, i, none⟩ = some u :=
  (t.cell (p := ⟨x, i, none⟩) (World.block_lt_of_cell? w ⟨x, i, none⟩ h)).trans h
theorem _root_.Go.Proofs.YthfncbnokjikfaaDoor.buf.Turn.cellKept {w w' : World} {b x i : Nat} {u : Value} (t : Turn [b] w w') (hb : ∀ o, w.cell? ⟨b, o, none⟩ = none) (h : w.cell? ⟨x, i, none⟩ = some u) : w'.cell? ⟨x, i, none⟩ = some u := by
  have hx : x < w.heap.size := World.block_lt_of_cell? w ⟨x, i, none⟩ h
  have hne : x ≠ b := fun e => by rw [e, hb] at h; cases h
  exact (World.cell?_of_block (a := ⟨x, i, none⟩) (t.block x hx (by simpa using hne))).trans h
theorem TabAt.nocell {w : World} {g b : Nat} {mem : Int} {l : Tab} (h : TabAt w g b mem l) : ∀ o, w.cell? ⟨b, o, none⟩ = none := by
  obtain ⟨_, f, h2, _⟩ := h
  exact fun o => MapFn.nocell h2 o
theorem exec_len_by {P : Program} {w w' : World} {o : Oper} {a : Act} (s : Operand) (t : TypeId) (ho : o.op = .call { callee := .builtin .len, args := #[s], argTypes := #[t] }) (V r : Value) (hs : a.eval s = V) (hr : (Builtin.len_ #[t] o.type #[V]).run P w = .ok r w') : (execOp a.eval o).run P w = .ok (.value r) w' := by
  unfold execOp
  simp only [ho, resolve, invoke, builtin, Sem.run_bind, Sem.run_pure, Result.andThen_ok, List.map_toArray, List.map_cons, List.map_nil, hs, hr]
set_option maxRecDepth 100000 in
set_option maxHeartbeats 2000000 in
theorem add_any {w : World} {g b : Nat} {mem : Int} {l : Tab} (h : TabAt w g b mem l) (hl : l.length ≤ 32) (s : ByteArray) (hs : s.size ≤ maxLen) {v : Value} {to : List Int} (hi : IntsAt w v to) (hto : to.length ≤ 1048576) :
    Calls Tryd.prog 10 #[.pointer (some ⟨g, 0, none⟩), .agg #[.string s, v]] w fun e w' =>
      e = .returned (.int .i64 (addE mem l s.data.toList to)) ∧ TabAt w' g b mem (addT mem l s.data.toList to) ∧ Turn [b] w w' := by
  obtain ⟨W0, e0⟩ : ∃ W, w.alloc (.cells #[.string s, v] 25) = W := ⟨_, rfl⟩
  obtain ⟨B0, eB⟩ : ∃ B, w.heap.size = B := ⟨_, rfl⟩
  have b0 : Below w.heap.size w W0 := by rw [← e0]; exact (Below.refl _ _).alloc (Nat.le_refl _) _
  have k0 : W0.heap[B0]? = some (.cells #[.string s, v] 25 (0, 0)) := by rw [← e0, ← eB]; exact heap_alloc_last _ _
  have H0 := Lib.hid (h.below b0)
  have I0 := Lib.hid (hi.below b0)
  have T0 := Lib.hid (Turn.of_below (O := [b]) b0)
  have hB0 := Lib.hid (Array.getElem?_eq_some_iff.1 k0).1
  have c0 : W0.cell? ⟨B0, 0, none⟩ = some (.string s) := cells_at k0 0
  have K0 := Lib.hid k0
  have E0 := Lib.hid e0
  clear k0 b0 h hi e0
  go_enter Tryd.func10, Tryd.ntmps10
  go_wp2_with fail
  rw [E0.out]
  refine (trim_any s W0).mono ?_
  rintro e w1 ⟨⟨r, rfl, hr⟩, b1⟩
  have H1 := Lib.hid (H0.out.below b1)
  have I1 := Lib.hid (I0.out.below b1)
  have T1 := Lib.hid (T0.out.trans (Turn.of_below (O := [b]) b1))
  have k1 : w1.heap[B0]? = some (.cells #[.string s, v] 25 (0, 0)) := (b1.block B0 hB0.out).trans K0.out
  have c1 : w1.cell? ⟨B0, 0, none⟩ = some (.string s) := cells_at k1 0
  have c2 : w1.cell? ⟨B0, 1, none⟩ = some v := cells_at k1 1
  have c3 : w1.cell? ⟨g, 0, none⟩ = some (.int .i64 mem) := cells_at H1.out.blk 0
  have c4 : w1.cell? ⟨g, 1, none⟩ = some (.map (some b)) := cells_at H1.out.blk 1
  have hlk := look_tab H1.out s hs
  obtain ⟨x, hx, _⟩ := hlk
  obtain ⟨there, hth⟩ : ∃ t, t = (routep.get l s.data.toList).isSome := ⟨_, rfl⟩
  rw [← hth] at hx
  have HX := Lib.hid hx
  have HTH := Lib.hid hth
  have HRR := Lib.hid hr
  clear c0 K0 E0 eB hB0 H0 I0 T0 b1 k1 hx hth hr
  obtain ⟨dg, hdg⟩ : ∃ d, d = s.data.toList.all digitB := ⟨_, rfl⟩
  obtain ⟨em, hem⟩ : ∃ d, d = s.data.toList.isEmpty := ⟨_, rfl⟩
  have hre : r.toList.isEmpty = dg := by
    rw [hdg, Lib.toList_data]
    cases ha : s.data.toList.all digitB with
    | true => rw [HRR.out.2 ha]; rfl
    | false =>
      cases he : r.data.toList.isEmpty with
      | false => rfl
      | true =>
        have : r = ⟨#[]⟩ := by
          have h0 : r.data.toList = [] := List.isEmpty_iff.1 he
          have : r.data = #[] := by simpa using h0
          cases r
          simp_all
        rw [HRR.out.1 this] at ha
        cases ha
  have hse : s.toList.isEmpty = em := by rw [hem, Lib.toList_data]
  have HDG := Lib.hid hdg
  have HEM := Lib.hid hem
  have HSZ := Lib.hid (show s.data.toList.length = s.size from (Lib.size_eq s).symm)
  clear hdg hem HRR
  go_wp2_with fail
  refine wp_region_quiet_lit (by kernel_rfl) (by kernel_rfl) ?_
  repeat (go_big_quiet_step (fail))
  refine quiet_lookup rfl 55 (.tmp 16) (.tmp 18) true rfl (.map (some b)) (.string s) (.tuple #[x.v, .bool there]) rfl rfl (by rintro w' ⟨n', rfl⟩; exact HX.out _ rfl) ?_
  simp only [Act.put, List.setIfInBounds_toArray, List.set_cons_zero, List.set_cons_succ]
  repeat (go_big_quiet_step (fail))
  refine wpQuiet_nil ?_
  rintro _ ⟨nq, rfl⟩
  have hbad : mayKey s.data.toList = false → addE mem l s.data.toList to = 110 := fun h => by unfold addE; rw [if_pos h]
  have HBAD := Lib.hid hbad
  clear hbad
  have hfin : addE mem l s.data.toList to = 110 → (TabAt (w1.drewN nq) g b mem (addT mem l s.data.toList to) ∧ Turn [b] w (w1.drewN nq)) := fun h => by
    refine ⟨?_, T1.out.trans (Turn.of_below (drewN_base _ _))⟩
    unfold addT
    rw [if_neg (by rw [h]; decide)]
    exact H1.out.below (drewN_base _ _)
  have HFIN := Lib.hid hfin
  clear hfin
  cases em with
  | true =>
    have HM := Lib.hid (HBAD.out (by unfold mayKey; rw [decide_eq_false]; rfl; exact fun h => h.1 (List.isEmpty_iff.1 HEM.out.symm)))
    go_wp2_with fail
    go_ret
    exact ⟨by rw [HM.out]; rfl, HFIN.out HM.out⟩
  | false =>
    by_cases h8 : (8 : Int) < s.size
    · have HM := Lib.hid (HBAD.out (by unfold mayKey; rw [decide_eq_false]; rfl; exact fun h => by have := HSZ.out; omega))
      go_wp2_with fail
      go_ret
      exact ⟨by rw [HM.out]; rfl, HFIN.out HM.out⟩
    · cases dg with
      | false =>
        have HM := Lib.hid (HBAD.out (by unfold mayKey; rw [← HDG.out, Bool.and_false]))
        go_wp2_with fail
        go_ret
        exact ⟨by rw [HM.out]; rfl, HFIN.out HM.out⟩
      | true =>
        have hmk : mayKey s.data.toList = true := by
          unfold mayKey
          rw [← HDG.out, Bool.and_true, decide_eq_true_iff]
          exact ⟨fun e => (by have := HEM.out; rw [e] at this; cases this), by have := HSZ.out; omega⟩
        have HMK := Lib.hid hmk
        have d2 : (w1.drewN nq).cell? ⟨g, 0, none⟩ = some (.int .i64 mem) := c3
        have HMAY := Lib.hid (may_any d2 (I1.out.below (drewN_base _ nq)))
        clear hmk d2
        go_wp2_with fail
        refine HMAY.out.mono ?_
        rintro e w2 ⟨rfl, rfl⟩
        cases hrow : mayRow mem to with
        | false =>
          have HM := Lib.hid (show addE mem l s.data.toList to = 112 by unfold addE; rw [if_neg (by rw [HMK.out]; decide), if_pos hrow])
          clear hrow
          go_wp2_with fail
          go_ret
          refine ⟨by rw [HM.out]; rfl, ?_, T1.out.trans (Turn.of_below (drewN_base _ _))⟩
          unfold addT
          rw [if_neg (by rw [HM.out]; decide)]
          exact H1.out.below (drewN_base _ _)
        | true =>
          have HROW := Lib.hid hrow
          clear hrow
          cases there with
          | true =>
            have HM := Lib.hid (show addE mem l s.data.toList to = 111 by unfold addE; rw [if_neg (by rw [HMK.out]; decide), if_neg (by rw [HROW.out]; decide), if_pos HTH.out.symm])
            go_wp2_with fail
            go_ret
            refine ⟨by rw [HM.out]; rfl, ?_, T1.out.trans (Turn.of_below (drewN_base _ _))⟩
            unfold addT
            rw [if_neg (by rw [HM.out]; decide)]
            exact H1.out.below (drewN_base _ _)
          | false =>
            obtain ⟨f, hM, _⟩ := H1.out.body
            have hlen := (hM.block (w' := w1.drewN nq) rfl).len (t := 55) Tryd.underlying55 3
            have HLEN := Lib.hid hlen
            clear hM hlen
            have hg0 : routep.get l s.data.toList = none := by
              cases hg : routep.get l s.data.toList with
              | none => rfl
              | some y => have := HTH.out; rw [hg] at this; cases this
            have HG0 := Lib.hid hg0
            clear hg0
            by_cases h32 : l.length = 32
            · have h32' : (l.length : Int) = 32 := by omega
              have HM := Lib.hid (show addE mem l s.data.toList to = 3 by unfold addE; rw [if_neg (by rw [HMK.out]; decide), if_neg (by rw [HROW.out]; decide), if_neg (by rw [HG0.out]; decide), if_pos h32])
              clear h32
              rw [h32'] at HLEN
              go_wp2_with (refine wpList_run rfl _ (exec_len_by (.tmp 48) 55 rfl (.map (some b)) (.int .i64 32) rfl HLEN.out) ?_)
              go_ret
              refine ⟨by rw [HM.out]; rfl, ?_, T1.out.trans (Turn.of_below (drewN_base _ _))⟩
              unfold addT
              rw [if_neg (by rw [HM.out]; decide)]
              exact H1.out.below (drewN_base _ _)
            · have h32' : ¬ (l.length : Int) = 32 := by omega
              have HM := Lib.hid (show addE mem l s.data.toList to = 0 by unfold addE; rw [if_neg (by rw [HMK.out]; decide), if_neg (by rw [HROW.out]; decide), if_neg (by rw [HG0.out]; decide), if_neg h32])
              go_wp2_with (refine wpList_run rfl _ (exec_len_by (.tmp 48) 55 rfl (.map (some b)) (.int .i64 l.length) rfl HLEN.out) ?_)
              have bW : Below w1.heap.size w1 (w1.drewN nq).drew := (drewN_base w1 nq).trans ⟨rfl, rfl, rfl, Nat.le_refl _, fun _ _ => rfl⟩
              have HW := Lib.hid (H1.out.below bW)
              have IW := Lib.hid (I1.out.below bW)
              have TW := Lib.hid (T1.out.trans (Turn.of_below (O := [b]) bW))
              have h0 : to ≠ [] := fun e => by have := HROW.out; rw [e] at this; simp [mayRow] at this
              have HC := Lib.hid (clone_any IW.out h0 (by omega))
              have HL2 := Lib.hid (show l.length < 32 by omega)
              have HS0 := Lib.hid (show (w1.drewN nq).drew.cell? ⟨g, 1, none⟩ = some (.map (some b)) ∧ (w1.drewN nq).drew.cell? ⟨B0, 0, none⟩ = some (.string s) ∧ (w1.drewN nq).drew.cell? ⟨B0, 1, none⟩ = some v from ⟨c4, c1, c2⟩)
              have HM0 := Lib.hid hs
              clear bW h0 hl h32 c1 c2 c3 c4
              refine wp_region_held_drew (S := (fun W => W.cell? ⟨g, 1, none⟩ = some (.map (some b)) ∧ W.cell? ⟨B0, 0, none⟩ = some (.string s) ∧ W.cell? ⟨B0, 1, none⟩ = some v)) (by kernel_rfl) (HS0.out) (fun hHeld => ?_)
              refine wpAnyH_take (i := 0) (oi := { dst := some 51, op := Op.move (Operand.tmp 0), type := 27, pos := "route.go:59", after := #[], guard := none }) (v := ?_) rfl (by kernel_rfl) (by kernel_rfl) (by kernel_rfl) (fun _ _ _ h => h) (Or.inl ⟨by rfl, ?hyad1⟩) (by assumption) ?restad1
              case hyad1 => (intro w hSw; (try dsimp only at hSw); go_simp; try with_reducible rfl)
              try simp only [Act.put, List.setIfInBounds_toArray, List.set_cons_zero, List.set_cons_succ]
              refine wpAnyH_take (i := 1) (oi := { dst := some 52, op := Op.nilCheck (Operand.tmp 51), type := 0, pos := "route.go:59", after := #[{ on := 0, ground := Ground.data }], guard := none }) (v := ?_) rfl (by kernel_rfl) (by kernel_rfl) (by kernel_rfl) (fun _ _ _ h => h) (Or.inl ⟨by rfl, ?hyad4⟩) (by assumption) ?restad4
              case hyad4 => (intro w hSw; (try dsimp only at hSw); go_simp; try with_reducible rfl)
              try simp only [Act.put, List.setIfInBounds_toArray, List.set_cons_zero, List.set_cons_succ]
              refine wpAnyH_take (i := 2) (oi := { dst := some 53, op := Op.fieldAddr 57 (Operand.tmp 52) 1, type := 0, pos := "route.go:59", after := #[{ on := 1, ground := Ground.data }], guard := none }) (v := ?_) rfl (by kernel_rfl) (by kernel_rfl) (by kernel_rfl) (fun _ _ _ h => h) (Or.inl ⟨by rfl, ?hyad7⟩) (by assumption) ?restad7
              case hyad7 => (intro w hSw; (try dsimp only at hSw); go_simp; try with_reducible rfl)
              try simp only [Act.put, List.setIfInBounds_toArray, List.set_cons_zero, List.set_cons_succ]
              refine wpAnyH_take (i := 3) (oi := { dst := some 54, op := Op.load 55 (Operand.tmp 53), type := 55, pos := "route.go:59", after := #[{ on := 2, ground := Ground.data }], guard := none }) (v := ?_) rfl (by kernel_rfl) (by kernel_rfl) (by kernel_rfl) (fun _ _ _ h => h) (Or.inl ⟨by rfl, ?hyad10⟩) (by assumption) ?restad10
              case hyad10 => (intro w hSw; have q1 := hSw.1; clear hSw; (try dsimp only at q1); go_simp; try with_reducible rfl)
              try simp only [Act.put, List.setIfInBounds_toArray, List.set_cons_zero, List.set_cons_succ]
              refine wpAnyH_take (i := 4) (oi := { dst := some 55, op := Op.fieldAddr 25 (Operand.tmp 3) 0, type := 0, pos := "route.go:59", after := #[], guard := none }) (v := ?_) rfl (by kernel_rfl) (by kernel_rfl) (by kernel_rfl) (fun _ _ _ h => h) (Or.inl ⟨by rfl, ?hyad13⟩) (by assumption) ?restad13
              case hyad13 => (intro w hSw; (try dsimp only at hSw); go_simp; try with_reducible rfl)
              try simp only [Act.put, List.setIfInBounds_toArray, List.set_cons_zero, List.set_cons_succ]
              refine wpAnyH_take (i := 5) (oi := { dst := some 56, op := Op.load 9 (Operand.tmp 55), type := 9, pos := "route.go:59", after := #[{ on := 4, ground := Ground.data }], guard := none }) (v := ?_) rfl (by kernel_rfl) (by kernel_rfl) (by kernel_rfl) (fun _ _ _ h => h) (Or.inl ⟨by rfl, ?hyad16⟩) (by assumption) ?restad16
              case hyad16 => (intro w hSw; have q1 := hSw.2.1; clear hSw; (try dsimp only at q1); go_simp; try with_reducible rfl)
              try simp only [Act.put, List.setIfInBounds_toArray, List.set_cons_zero, List.set_cons_succ]
              refine wpAnyH_take (i := 6) (oi := { dst := some 57, op := Op.fieldAddr 25 (Operand.tmp 3) 1, type := 0, pos := "route.go:59", after := #[], guard := none }) (v := ?_) rfl (by kernel_rfl) (by kernel_rfl) (by kernel_rfl) (fun _ _ _ h => h) (Or.inl ⟨by rfl, ?hyad19⟩) (by assumption) ?restad19
              case hyad19 => (intro w hSw; (try dsimp only at hSw); go_simp; try with_reducible rfl)
              try simp only [Act.put, List.setIfInBounds_toArray, List.set_cons_zero, List.set_cons_succ]
              refine wpAnyH_take (i := 7) (oi := { dst := some 58, op := Op.load 23 (Operand.tmp 57), type := 23, pos := "route.go:59", after := #[{ on := 6, ground := Ground.data }], guard := none }) (v := ?_) rfl (by kernel_rfl) (by kernel_rfl) (by kernel_rfl) (fun _ _ _ h => h) (Or.inl ⟨by rfl, ?hyad22⟩) (by assumption) ?restad22
              case hyad22 => (intro w hSw; have q1 := hSw.2.2; clear hSw; (try dsimp only at q1); go_simp; try with_reducible rfl)
              try simp only [Act.put, List.setIfInBounds_toArray, List.set_cons_zero, List.set_cons_succ]
              refine wpAnyH_ready (rs := [8]) (by kernel_rfl) (by simp) (AllReadyH.cons (o := { dst := some 59, op := Op.call { callee := Callee.value (Operand.func 23), args := #[Operand.tmp 58], argTypes := #[23] }, type := 23, pos := "route.go:59", after := #[{ on := 7, ground := Ground.data }], guard := none }) rfl (fun K hK => ?_) AllReadyH.nil)
              go_simp
              refine HC.out.mono ?_
              rintro e w3 ⟨v', rfl, hf⟩
              obtain ⟨y, rfl⟩ := hf.hd
              have hT3 := HW.out.below hf.1
              have hI3 := hf.ints
              obtain ⟨w4, hr, hT4, ht4⟩ := hT3.added s HM0.out HG0.out HL2.out (x := y) hI3
              have HRUN := Lib.hid hr
              have HT4 := Lib.hid hT4
              have TT4 := Lib.hid ((TW.out.trans (Turn.of_below hf.1)).trans ht4)
              have HS3 := Lib.hid (show w3.cell? ⟨g, 1, none⟩ = some (.map (some b)) ∧ w3.cell? ⟨B0, 0, none⟩ = some (.string s) ∧ w3.cell? ⟨B0, 1, none⟩ = some v from ⟨hf.1.keptCell HS0.out.1, hf.1.keptCell HS0.out.2.1, hf.1.keptCell HS0.out.2.2⟩)
              have HS4 := Lib.hid (show w4.cell? ⟨g, 1, none⟩ = some (.map (some b)) ∧ w4.cell? ⟨B0, 0, none⟩ = some (.string s) ∧ w4.cell? ⟨B0, 1, none⟩ = some v from ⟨ht4.cellKept hT3.nocell HS3.out.1, ht4.cellKept hT3.nocell HS3.out.2.1, ht4.cellKept hT3.nocell HS3.out.2.2⟩)
              clear hf hT3 hI3 hr hT4 ht4
              refine hK.out _ _ (HS3.out) (fun hHeld => ?_)
              clear hK K
              try simp only [Act.put, List.setIfInBounds_toArray, List.set_cons_zero, List.set_cons_succ]
              refine wpAnyH_ready (rs := [9]) (by kernel_rfl) (by simp) (AllReadyH.cons (o := { dst := none, op := Op.mapUpdate 55 (Operand.tmp 54) (Operand.tmp 56) (Operand.tmp 59), type := 0, pos := "route.go:59", after := #[{ on := 3, ground := Ground.data }, { on := 5, ground := Ground.data }, { on := 8, ground := Ground.data }, { on := 8, ground := Ground.chain }, { on := 0, ground := Ground.phase }, { on := 1, ground := Ground.phase }, { on := 2, ground := Ground.phase }, { on := 3, ground := Ground.phase }, { on := 4, ground := Ground.phase }, { on := 5, ground := Ground.phase }, { on := 6, ground := Ground.phase }, { on := 7, ground := Ground.phase }, { on := 8, ground := Ground.phase }], guard := none }) rfl (fun K hK => ?_) AllReadyH.nil)
              refine step_nov rfl (exec_mapUpdate 55 (.tmp 54) (.tmp 56) (.tmp 59) rfl (.map (some b)) (.string s) y.v rfl rfl rfl HRUN.out) ?_
              refine hK.out _ _ (HS4.out) (fun hHeld => ?_)
              clear hK K
              refine wpAnyH_done (by kernel_rfl) ?_ _
              clear hHeld
              go_wp2_with fail
              go_ret
              refine ⟨by rw [HM.out]; rfl, ?_, TT4.out⟩
              unfold addT
              rw [if_pos HM.out]
              exact HT4.out
end Go.Proofs.YthfncbnokjikfaaDoor.routew
