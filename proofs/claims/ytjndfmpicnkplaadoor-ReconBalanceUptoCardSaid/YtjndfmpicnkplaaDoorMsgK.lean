/- Layer 5: what is right with a message. Conditions: as each theorem says. -/
import Derived.Test.YtjndfmpicnkplaaDoorMsgJ
import Derived.Test.YtjndfmpicnkplaaDoorFieldLite
namespace Go.Proofs.YtjndfmpicnkplaaDoor.msgw
open Go.RowKit
open Go.Proofs.YtjndfmpicnkplaaDoor.msgp
open Go.Proofs.YtjndfmpicnkplaaDoor.buf
open Go.Proofs.YtjndfmpicnkplaaDoor.fieldp
open Go.Proofs.YtjndfmpicnkplaaDoor.fieldw
/-- What is wrong: a number, or a field's number and a number. -/
inductive Er | plain (n : Int) | field (no n : Int)
def errF : Int → Flds → Option Er
  | _, [] => none
  | last, x :: r => match formF x.1 0 with
    | none => some (.field x.1 52)
    | some (k, s) => if x.1 ≤ last then some (.field x.1 52) else if checkR k s 1 x.2.data.toList = 0 then errF x.1 r else some (.field x.1 (checkR k s 1 x.2.data.toList))
/-- What Check finds. -/
def checkM (ty : Int) (F : Flds) : Option Er := if typesL.contains ty = false then some (.plain 51) else if 24 < F.length then some (.plain 5) else errF 0 F
/-- An error in memory. -/
def ErrAt (w : World) (v : Value) : Option Er → Prop
  | none => v = .nilIface
  | some (.plain n) => v = .iface 97 (.int .i64 n)
  | some (.field no n) => ∃ b, v = .iface 104 (.pointer (some ⟨b, 0, none⟩)) ∧ w.heap[b]? = some (.cells #[.int .i64 no, .iface 97 (.int .i64 n)] 106 (0, 0))
theorem dial1 {w : World} (hT : Tabs w) : w.cell? ⟨1, 3, none⟩ = some (.int .i64 1) ∧ w.cell? ⟨1, 4, none⟩ = some (.int .u8 48) ∧ w.cell? ⟨1, 5, none⟩ = some (.int .i64 0) := hT.dialects 1 (by decide)
theorem contains_types {w : World} (hT : Tabs w) (ty : Int) : Calls Tryd.prog 45 #[.slice (some ⟨0, 0, none⟩) 16 16, .int .i64 ty] w fun e w' => e = .returned (.bool (typesL.contains ty)) ∧ w' = w :=
  (Tryd.slices_Contains_int 0 0 16 16 typesL ty w (by decide) (by decide) (fun j hj => by rw [Nat.zero_add, hT.types j hj]; simp [List.getD, hj])).mono (fun e w' h => by rwa [show typesL.take 16 = typesL from rfl] at h)
theorem fault_any {w : World} (n : Int) : Calls Tryd.prog 46 #[.int .i64 n] w fun e w' => e = .returned (if n = 0 then .nilIface else .iface 97 (.int .i64 n)) ∧ Below w.heap.size w w' := by
  by_cases h : n = 0
  · subst h
    exact fault_ok
  · rw [if_neg h]
    have hd : decide (n = 0) = false := by simpa using h
    go_enter Tryd.func46, Tryd.ntmps46
    go_wp2_with fail
    go_ret
    exact ⟨rfl, Below.refl _ _⟩
theorem errF_nil (last : Int) : errF last [] = none := rfl
theorem errF_none {last : Int} {F : Flds} {k : Nat} (hk : k < F.length) (h : formF F[k].1 0 = none) : errF last (F.drop k) = some (.field F[k].1 52) := by
  rw [List.drop_eq_getElem_cons hk, errF, h]
theorem errF_low {last : Int} {F : Flds} {k : Nat} (hk : k < F.length) {a s : Int} (h : formF F[k].1 0 = some (a, s)) (hl : F[k].1 ≤ last) : errF last (F.drop k) = some (.field F[k].1 52) := by
  rw [List.drop_eq_getElem_cons hk, errF, h]; simp [hl]
theorem errF_text {last : Int} {F : Flds} {k : Nat} (hk : k < F.length) {a s : Int} (h : formF F[k].1 0 = some (a, s)) (hl : ¬ F[k].1 ≤ last) (hc : checkR a s 1 F[k].2.data.toList ≠ 0) : errF last (F.drop k) = some (.field F[k].1 (checkR a s 1 F[k].2.data.toList)) := by
  rw [List.drop_eq_getElem_cons hk, errF, h]; simp [hl, hc]
theorem errF_next {last : Int} {F : Flds} {k : Nat} (hk : k < F.length) {a s : Int} (h : formF F[k].1 0 = some (a, s)) (hl : ¬ F[k].1 ≤ last) (hc : checkR a s 1 F[k].2.data.toList = 0) : errF last (F.drop k) = errF F[k].1 (F.drop (k + 1)) := by
  rw [List.drop_eq_getElem_cons hk, errF, h]; simp [hl, hc]
theorem box_row2 (w : World) (cs cs' : Array Value) (t t' : TypeId) : ((w.alloc (.cells cs t)).alloc (.cells cs' t')).heap[w.heap.size + 1]? = some (.cells cs' t' (0, 0)) := by
  have := heap_alloc_last (w.alloc (.cells cs t)) (.cells cs' t')
  simpa using this
theorem box_row (w : World) (cs : Array Value) (t : TypeId) : (w.alloc (.cells cs t)).heap[w.heap.size]? = some (.cells cs t (0, 0)) := heap_alloc_last _ _
set_option maxHeartbeats 2000000 in
set_option maxRecDepth 100000 in
theorem check_in {w : World} {v : Value} {F : Flds} (h : FsAt w v F) (hT : Tabs w) (ty : Int) (hty : typesL.contains ty = true) (hl : F.length ≤ 24) (hS : ∀ x ∈ F, x.2.size ≤ 100000000) :
    Calls Tryd.prog 29 #[.agg #[.int .i64 ty, v]] w fun e w' => ∃ v', e = .returned v' ∧ ErrAt w' v' (errF 0 F) ∧ Below w.heap.size w w' := by
  obtain ⟨p, c, rfl⟩ := h.shape
  obtain ⟨w0, e0⟩ : ∃ W, w.alloc (.cells #[.int .i64 ty, .slice p F.length c] 32) = W := ⟨_, rfl⟩
  have b0 : Below w.heap.size w w0 := by rw [← e0]; exact (Below.refl _ _).alloc (Nat.le_refl _) _
  have k0 : w0.heap[w.heap.size]? = some (.cells #[.int .i64 ty, .slice p F.length c] 32 (0, 0)) := by rw [← e0]; exact heap_alloc_last _ _
  have c0 : w0.cell? ⟨w.heap.size, 0, none⟩ = some (.int .i64 ty) := cells_at k0 0
  have c1 : w0.cell? ⟨w.heap.size, 1, none⟩ = some (.slice p F.length c) := cells_at k0 1
  have HC := Lib.hid (contains_types ((hT.below b0).below (show Below w0.heap.size w0 w0.drew from ⟨rfl, rfl, rfl, Nat.le_refl _, fun _ _ => rfl⟩)) ty)
  rw [hty] at HC
  have H := Lib.hid (h.below b0)
  have HT0 := Lib.hid (hT.below b0)
  have HB0 := Lib.hid b0
  have K0 := Lib.hid k0
  have HLT := Lib.hid (show w.heap.size < w0.heap.size by rw [← e0]; simp)
  have E0 := Lib.hid e0
  have HS := Lib.hid hS
  have n24 : ¬ (24 : Int) < F.length := by omega
  clear h hT b0 k0 e0 hty hS
  go_enter Tryd.func29, Tryd.ntmps29
  go_wp2_with fail
  rw [E0.out]
  refine wp_region_held_drew (S := (fun W => W.cell? ⟨w.heap.size, 0, none⟩ = some (.int .i64 ty))) (by kernel_rfl) (c0) (fun hHeld => ?_)
  refine wpAnyH_take (i := 0) (oi := { dst := some 10, op := Op.slice 102 (Operand.global 0) none none none, type := 42, pos := "message.go:115", after := #[], guard := none }) (v := ?_) rfl (by kernel_rfl) (by kernel_rfl) (by kernel_rfl) (fun _ _ _ h => h) (Or.inl ⟨by rfl, ?hyca1⟩) (by assumption) ?restca1
  case hyca1 => (intro w hSw; (try dsimp only at hSw); go_simp; try with_reducible rfl)
  try simp only [Act.put, List.setIfInBounds_toArray, List.set_cons_zero, List.set_cons_succ]
  refine wpAnyH_take (i := 1) (oi := { dst := some 11, op := Op.fieldAddr 32 (Operand.tmp 1) 0, type := 0, pos := "message.go:115", after := #[], guard := none }) (v := ?_) rfl (by kernel_rfl) (by kernel_rfl) (by kernel_rfl) (fun _ _ _ h => h) (Or.inl ⟨by rfl, ?hyca4⟩) (by assumption) ?restca4
  case hyca4 => (intro w hSw; (try dsimp only at hSw); go_simp; try with_reducible rfl)
  try simp only [Act.put, List.setIfInBounds_toArray, List.set_cons_zero, List.set_cons_succ]
  refine wpAnyH_take (i := 2) (oi := { dst := some 12, op := Op.load 3 (Operand.tmp 11), type := 3, pos := "message.go:115", after := #[{ on := 1, ground := Ground.data }], guard := none }) (v := ?_) rfl (by kernel_rfl) (by kernel_rfl) (by kernel_rfl) (fun _ _ _ h => h) (Or.inl ⟨by rfl, ?hyca7⟩) (by assumption) ?restca7
  case hyca7 => (intro w hSw; (try dsimp only at hSw); go_simp; try with_reducible rfl)
  try simp only [Act.put, List.setIfInBounds_toArray, List.set_cons_zero, List.set_cons_succ]
  refine wpAnyH_ready (rs := [3]) (by kernel_rfl) (by simp) (AllReadyH.cons (o := { dst := some 13, op := Op.call { callee := Callee.value (Operand.func 45), args := #[Operand.tmp 10, Operand.tmp 12], argTypes := #[42, 3] }, type := 4, pos := "message.go:115", after := #[{ on := 0, ground := Ground.data }, { on := 2, ground := Ground.data }], guard := none }) rfl (fun K hK => ?_) AllReadyH.nil)
  go_simp
  refine HC.out.mono ?_
  rintro e w1 ⟨rfl, e1⟩
  refine hK.out _ _ ((by rw [e1]; exact c0)) (fun hHeld => ?_)
  clear hK K
  try simp only [Act.put, List.setIfInBounds_toArray, List.set_cons_zero, List.set_cons_succ]
  refine wpAnyH_take (i := 4) (oi := { dst := some 14, op := Op.unOp UnOp.not 4 (Operand.tmp 13), type := 4, pos := "message.go:115", after := #[{ on := 3, ground := Ground.data }], guard := none }) (v := ?_) rfl (by kernel_rfl) (by kernel_rfl) (by kernel_rfl) (fun _ _ _ h => h) (Or.inl ⟨by rfl, ?hyca17⟩) (by assumption) ?restca17
  case hyca17 => (intro w hSw; (try dsimp only at hSw); go_simp; try with_reducible rfl)
  try simp only [Act.put, List.setIfInBounds_toArray, List.set_cons_zero, List.set_cons_succ]
  refine wpAnyH_take (i := 5) (oi := { dst := some 9, op := Op.assign (Operand.tmp 14), type := 4, pos := "message.go:115", after := #[{ on := 4, ground := Ground.data }, { on := 3, ground := Ground.chain }], guard := none }) (v := ?_) rfl (by kernel_rfl) (by kernel_rfl) (by kernel_rfl) (fun _ _ _ h => h) (Or.inl ⟨by rfl, ?hyca20⟩) (by assumption) ?restca20
  case hyca20 => (intro w hSw; (try dsimp only at hSw); go_simp; try with_reducible rfl)
  try simp only [Act.put, List.setIfInBounds_toArray, List.set_cons_zero, List.set_cons_succ]
  refine wpAnyH_done (by kernel_rfl) ?_ _
  clear hHeld
  rw [e1]
  obtain ⟨w2, e2⟩ : ∃ W, w0.drew = W := ⟨_, rfl⟩
  have b2 : Below w0.heap.size w0 w2 := by rw [← e2]; exact ⟨rfl, rfl, rfl, Nat.le_refl _, fun _ _ => rfl⟩
  rw [e2]
  clear e1 e2
  replace c1 : w2.cell? ⟨w.heap.size, 1, none⟩ = some (.slice p F.length c) := (World.cell?_of_block (a := ⟨w.heap.size, 1, none⟩) (b2.block w.heap.size HLT.out)).trans c1
  have HB2 := Lib.hid (HB0.out.trans (b2.mono HB0.out.size))
  have H2 := Lib.hid (H.out.below b2)
  have HT2 := Lib.hid (HT0.out.below b2)
  clear c0 HC b2
  go_wp2_with fail
  obtain ⟨W0, eW0⟩ : ∃ n, w.heap.size = n := ⟨_, rfl⟩
  go_loopw [3, 25] (fun la i wr => Below w.heap.size w wr ∧ Below w2.heap.size w2 wr ∧ ∃ (k : Nat) (last : Int), k ≤ F.length ∧ i = .int .i64 k ∧ la = .int .i64 last ∧ errF 0 F = errF last (F.drop k)) (fun _ i _ => F.length - (intOf i).toNat)
  case atStart => exact ⟨HB2.out, Below.refl _ _, 0, 0, by omega, rfl, rfl, by rw [List.drop_zero]⟩
  case round =>
    obtain ⟨hbw, hb2, k, last, hk, rfl, rfl, he⟩ := hrel
    by_cases hlt : k < F.length
    · have hlt' : (k : Int) < F.length := by omega
      obtain ⟨b, o, rfl, q0, q1⟩ := (H2.out.below hb2).get k hlt
      obtain ⟨x, ex⟩ : ∃ x, x = F[k] := ⟨_, rfl⟩
      rw [← ex] at q0 q1
      have HLTK := Lib.hid hlt
      have HEX := Lib.hid ex
      have hsz : x.2.size ≤ 100000000 := by rw [ex]; exact HS.out _ (List.getElem_mem hlt)
      obtain ⟨no, s⟩ := x
      have HSZ := Lib.hid hsz
      obtain ⟨w3, e3⟩ : ∃ W, wr.alloc (.cells #[.int .i64 no, .string s] 45) = W := ⟨_, rfl⟩
      have b3 : Below wr.heap.size wr w3 := by rw [← e3]; exact (Below.refl _ _).alloc (Nat.le_refl _) _
      have k3 : w3.heap[wr.heap.size]? = some (.cells #[.int .i64 no, .string s] 45 (0, 0)) := by rw [← e3]; exact heap_alloc_last _ _
      obtain ⟨t0, t1, t2⟩ := dial1 ((HT2.out.below hb2).below b3)
      have f0 : w3.cell? ⟨wr.heap.size, 0, none⟩ = some (.int .i64 no) := cells_at k3 0
      rw [← e3] at t0 t1 t2 f0
      have HF := Lib.hid (form_any ((HT2.out.below hb2).below b3) 1 48 0 no (by omega))
      have l3 : wr.heap.size < w3.heap.size := by rw [← e3]; simp
      have HB3 := Lib.hid (hbw.trans (b3.mono hbw.size))
      have HB23 := Lib.hid (hb2.trans (b3.mono hb2.size))
      have HE := Lib.hid he
      have HE3 := Lib.hid e3
      have HK3 := Lib.hid k3
      have HL3 := Lib.hid l3
      clear he ex e3 b3 hbw hb2 hsz k3 l3 eW0
      go_wp2_with fail
      rw [HE3.out]
      refine HF.out.mono ?_
      rintro e w4 ⟨rfl, b4⟩
      have f04 : w4.cell? ⟨wr.heap.size, 0, none⟩ = some (.int .i64 no) := b4.keptCell (cells_at HK3.out 0)
      have f14 : w4.cell? ⟨wr.heap.size, 1, none⟩ = some (.string s) := b4.keptCell (cells_at HK3.out 1)
      have HB4 := Lib.hid (HB3.out.trans (b4.mono HB3.out.size))
      have HB24 := Lib.hid (HB23.out.trans (b4.mono HB23.out.size))
      clear b4 t0 t1 t2 f0
      obtain ⟨R, eR⟩ : ∃ R, formF no 0 = R := ⟨_, rfl⟩
      rw [eR]
      have HR := Lib.hid eR
      clear eR
      cases R with
      | none =>
        have b5 : Below w4.heap.size w4 (w4.alloc (.cells #[.int .i64 0, .int .i64 0, .int .i64 0] 55)) := (Below.refl _ _).alloc (Nat.le_refl _) _
        have f05 := b5.keptCell f04
        have HB5 := Lib.hid (HB4.out.trans (b5.mono HB4.out.size))
        have HER := Lib.hid (show errF 0 F = some (.field no 52) by rw [HE.out, errF_none HLTK.out (by rw [← HEX.out]; exact HR.out), ← HEX.out])
        clear b5 f04 f14
        unfold formV
        go_wp2_with fail
        go_ret
        exact ⟨_, rfl, by rw [HER.out]; exact ⟨_, rfl, box_row2 _ _ _ _ _⟩, HB5.out.alloc HB5.out.size _⟩
      | some ks =>
        obtain ⟨kk, ss⟩ := ks
        have b5 : Below w4.heap.size w4 (w4.alloc (.cells #[.int .i64 kk, .int .i64 ss, .int .i64 1] 55)) := (Below.refl _ _).alloc (Nat.le_refl _) _
        have f05 := b5.keptCell f04
        have f15 := b5.keptCell f14
        have k5 := box_row w4 #[.int .i64 kk, .int .i64 ss, .int .i64 1] 55
        have HB5 := Lib.hid (HB4.out.trans (b5.mono HB4.out.size))
        have HB25 := Lib.hid (HB24.out.trans (b5.mono HB24.out.size))
        clear b5 f04 f14
        unfold formV
        by_cases hle : no ≤ last
        · have HER := Lib.hid (show errF 0 F = some (.field no 52) by rw [HE.out, errF_low HLTK.out (by rw [← HEX.out]; exact HR.out) (by rw [← HEX.out]; exact hle), ← HEX.out])
          go_wp2_with fail
          go_ret
          exact ⟨_, rfl, by rw [HER.out]; exact ⟨_, rfl, box_row2 _ _ _ _ _⟩, HB5.out.alloc HB5.out.size _⟩
        · have g0 := cells_at k5 0
          have g1 := cells_at k5 1
          have g2 := cells_at k5 2
          have HCK := Lib.hid (fun W => check_any kk ss 1 s W HSZ.out)
          have HLE := Lib.hid hle
          clear k5
          go_wp2_with fail
          refine (HCK.out _).mono ?_
          rintro e w6 ⟨rfl, b6⟩
          have f06 := b6.keptCell f05
          have HB6 := Lib.hid (HB5.out.trans (b6.mono HB5.out.size))
          have HB26 := Lib.hid (HB25.out.trans (b6.mono HB25.out.size))
          clear b6 f05 f15 g0 g1 g2
          obtain ⟨e9, he9⟩ : ∃ e9, checkR kk ss 1 s.data.toList = e9 := ⟨_, rfl⟩
          rw [he9]
          have HE9 := Lib.hid he9
          have HFT := Lib.hid (fun W => fault_any (w := W) e9)
          clear he9
          go_wp2_with fail
          refine (HFT.out _).mono ?_
          rintro e w7 ⟨rfl, b7⟩
          have f07 := b7.keptCell f06
          have HB7 := Lib.hid (HB6.out.trans (b7.mono HB6.out.size))
          have HB27 := Lib.hid (HB26.out.trans (b7.mono HB26.out.size))
          clear b7 f06
          by_cases hz : e9 = 0
          · subst hz
            rw [if_pos rfl]
            have HER := Lib.hid (show errF 0 F = errF no (F.drop (k + 1)) by rw [HE.out, errF_next HLTK.out (by rw [← HEX.out]; exact HR.out) (by rw [← HEX.out]; exact Int.not_le.mpr HLE.out) (by rw [← HEX.out]; exact HE9.out), ← HEX.out])
            clear hle
            go_wp2_with fail
            go_roundw
            case rel => exact ⟨HB7.out, HB27.out, k + 1, no, by omega, by go_num, rfl, HER.out⟩
            case measure => simp [intOf]; omega
          · rw [if_neg hz]
            have HER := Lib.hid (show errF 0 F = some (.field no e9) by rw [HE.out, errF_text HLTK.out (by rw [← HEX.out]; exact HR.out) (by rw [← HEX.out]; exact Int.not_le.mpr HLE.out) (by rw [← HEX.out]; exact HE9.out ▸ hz), ← HEX.out]; rw [HE9.out])
            clear hle
            go_wp2_with fail
            go_ret
            exact ⟨_, rfl, by rw [HER.out]; exact ⟨_, rfl, box_row _ _ _⟩, HB7.out.alloc HB7.out.size _⟩
    · obtain rfl : k = F.length := by omega
      have hlt' : ¬ (F.length : Int) < F.length := by omega
      have HE := Lib.hid (show errF 0 F = none by rw [he, List.drop_length]; rfl)
      have HB := Lib.hid hbw
      clear he hbw hb2 eW0
      go_wp2_with fail
      go_ret
      exact ⟨_, rfl, by rw [HE.out]; rfl, HB.out⟩
end Go.Proofs.YtjndfmpicnkplaaDoor.msgw
