/- Walks of layer 3's statements: PlantOff. Conditions: as each theorem says. -/
import Derived.Test.YtpnijopbbbgffaaPlantJ
import Derived.Deep.RegionHeld3
import Derived.Deep.QuietTactic
import Derived.BigQuiet
import Derived.WalkLawsBesides
namespace Go.Proofs.Ytpnijopbbbgffaa.plantw
open Go.RowKit
open Go.Proofs.Ytpnijopbbbgffaa.plantp
open Go.Proofs.Ytpnijopbbbgffaa.mapfn
open Go.Proofs.Ytpnijopbbbgffaa.buf
/-- A plant of eight sectors, k writes behind a fuse of f. -/
def OffAt (f k : Int) (p : PS) : Prop := p.most = [8] ∧ p.off = decide (f < k) ∧ p.fuse = (if f < k then -1 else f - k) ∧ p.steps = min k f
theorem OffAt.write {f k : Int} {p : PS} (h : OffAt f k p) {pl : Int} (h0 : 0 ≤ pl) (h1 : pl < 8) {s : Sec} (hs : s.length = 64) : ∃ q, p.write 0 pl s = (q, if k < f then 0 else 2) ∧ OffAt f (k + 1) q := by
  obtain ⟨h2, h3, h4, h5⟩ := h
  have ht : p.thereB 0 pl = true := by simp [PS.thereB, h2]; omega
  unfold PS.write
  rw [h3, ht]
  by_cases c : f < k
  · refine ⟨p, ?_, h2, ?_, ?_, ?_⟩
    · rw [if_pos (by simpa using c), if_neg (by omega)]
    · rw [h3]; simp; omega
    · rw [h4, if_pos c, if_pos (by omega)]
    · omega
  · rw [if_neg (by simpa using c), if_neg (by simp), if_neg (by simp [hs])]
    by_cases c0 : k = f
    · have z : p.fuse = 0 := by rw [h4, if_neg c]; omega
      refine ⟨p.step.1, ?_, ?_⟩
      · rw [if_pos z, if_neg (by omega)]
      · simp only [PS.step, if_pos z]
        exact ⟨h2, by simp; omega, by rw [if_pos (by omega)], by simp only; omega⟩
    · have z : ¬ p.fuse = 0 := by rw [h4, if_neg c]; omega
      have z1 : 0 < p.fuse := by rw [h4, if_neg c]; omega
      refine ⟨p.step.1.wait 0 pl.toNat s, ?_, ?_⟩
      · rw [if_neg z, if_pos (by omega)]; rfl
      · simp only [PS.step, if_neg z, PS.wait, if_pos z1]
        exact ⟨h2, by rw [h3]; simp; omega, by show p.fuse - 1 = _; rw [h4, if_neg c, if_neg (by omega)]; omega, by simp only; omega⟩
theorem OffAt.end {f k : Int} {p : PS} (h : OffAt f k p) : ∃ q, (p.fuseAt 0).flushAt 0 = (q, 2) ∧ q.most = [8] ∧ q.off = true ∧ q.steps = min k f ∧ (p.fuseAt 0).steps = min k f := by
  obtain ⟨h2, h3, h4, h5⟩ := h
  unfold PS.fuseAt
  by_cases c : f < k
  · have o : p.off = true := by rw [h3]; simpa using c
    rw [if_pos o]
    exact ⟨p, by simp [PS.flushAt, o], h2, o, h5, h5⟩
  · have o : ¬ p.off = true := by rw [h3]; simpa using c
    rw [if_neg o]
    have o' : p.off = false := by simpa using o
    refine ⟨{ p with off := true, fuse := -1 }, ?_, h2, rfl, h5, h5⟩
    have e : max (0 : Int) (-1) = 0 := by decide
    simp [PS.flushAt, o', h2, PS.step, e]
theorem off_stays {p : PS} (h : p.off = true) : (∀ d k s, p.write d k s = (p, 2)) ∧ (∀ d, p.flushAt d = (p, 2)) ∧ (∀ n, p.fuseAt n = p) ∧ ∀ d k, p.readE d k = 2 := by
  simp [PS.write, PS.flushAt, PS.fuseAt, PS.readE, h]
theorem off_boot {p : PS} (h : p.most = [8]) (k : Int) (h0 : 0 ≤ k) (h1 : k < 8) : (p.boot [1]).readE 0 k = 0 := by
  simp [PS.readE, PS.boot, PS.thereB, h]; omega
/-- What is read is as long as a sector. -/
theorem sec_len {w W : World} {g : Nat} {p : PS} {L : List (Nat × PS)} {F : List (Nat × Sec)} (h : Many w ((g, p) :: L) F W) (k : Nat) : (p.sec 0 k).length = 64 := by
  obtain ⟨O, h1, _⟩ := h.open
  exact lastW_len _ _ _ _ (h1.ok.sec _ _) (fun x hx => (h1.ok.wait x hx).1)
theorem wrap_byte (x : UInt8) : IntKind.i64.wrap (x.toNat : Int) = x.toNat := by
  have := x.toNat_lt
  rw [IntKind.wrap_i64]
  omega
set_option maxHeartbeats 4000000 in
set_option maxRecDepth 100000 in
theorem off_neg (w : World) {A : Option Addr} {c : Nat} {l : Sec} {n : Int} (hn : -9223372036854775808 ≤ n ∧ n ≤ 9223372036854775807) (hl : l.length ≤ 1048576) (c0 : n < 0) (h0 : BytesIn w A l) :
    Calls Try.prog 7 #[.slice A l.length c, .int .i64 n] w fun e w' => e = .returned (.bool true) ∧ Below w.heap.size w w' := by
  have HS := Lib.hid (shown_any w)
  have H0 := Lib.hid h0
  clear h0
  go_enter Try.func7, Try.ntmps7
  go_wp2_with fail
  refine HS.out.mono ?_
  rintro e w1 ⟨rfl, b1⟩
  have HN := Lib.hid (new_own (b1.alloc b1.size (.cells #[.int .i64 8] 3)) (ints_lit (zs := [8]) (heap_alloc_last w1 (.cells #[.int .i64 8] 3)) (by decide)) (by decide))
  go_wp2_with fail
  refine HN.out.mono ?_
  rintro e w2 ⟨g, rfl, n2⟩
  clear HN
  have HM := Lib.hid n2.mine.many
  clear n2 HS b1
  have HFULL : Hid (∀ W, Calls Try.prog 18 #[.int .u8 9] W (SecAt (List.replicate 64 9) W)) := Lib.hid fun W => full_any 9 W
  have hf : ∃ f : Int, (if n < 0 then -(n + 1).tmod 12 else n.tmod 12) = f ∧ 0 ≤ f ∧ f < 12 := by
    rcases Int.lt_or_le n 0 with d | d
    · have t0 := Int.tmod_nonneg (a := -(n + 1)) 12 (by omega)
      have t1 := Int.tmod_lt_of_pos (-(n + 1)) (b := 12) (by decide)
      rw [Int.neg_tmod] at t0 t1
      exact ⟨_, if_pos d, t0, t1⟩
    · exact ⟨_, if_neg (by omega), Int.tmod_nonneg (a := n) 12 d, Int.tmod_lt_of_pos n (b := 12) (by decide)⟩
  obtain ⟨f, ef, hf0, hf1⟩ := hf
  have c1 : -9223372036854775808 ≤ -(n + 1) := by omega
  rw [if_pos c0] at ef
  go_wp2_with fail
  clear ef c0
  try clear c1
  refine (fuse_many HM.out f (by omega)).mono ?_
  rintro e w3 ⟨rfl, h3⟩
  have hp : OffAt f 0 ((PS.new (List.map Int.toNat [8])).fuseAt f) := ⟨rfl, by simp [PS.fuseAt, PS.new]; omega, by simp [PS.fuseAt, PS.new]; omega, by simp [PS.fuseAt, PS.new]; omega⟩
  obtain ⟨p, ep⟩ : ∃ p, (PS.new (List.map Int.toNat [8])).fuseAt f = p := ⟨_, rfl⟩
  rw [ep] at h3 hp
  clear ep HM
  have H3 := Lib.hid h3
  have HP := Lib.hid hp
  clear h3 hp
  go_wp2_with fail
  go_loopw [8] (fun i wr => ∃ (k : Nat) (p : PS), k ≤ 20 ∧ k ≤ l.length ∧ i = .int .i64 k ∧ OffAt f k p ∧ Many w [(g, p)] [] wr) (fun i _ => 64 - (intOf i).toNat)
  case atStart => exact ⟨0, p, by omega, by omega, rfl, HP.out, H3.out⟩
  case round =>
    obtain ⟨k, p, hk, hkl, rfl, hp, hm⟩ := hrel
    have HM := Lib.hid hm
    have HP := Lib.hid hp
    clear hm hp
    by_cases hgo : k < l.length ∧ k < 20
    · obtain ⟨hlt, h20⟩ := hgo
      obtain ⟨b, o, rfl, hbk, hcs⟩ := H0.out.shape (by intro h; subst h; simp at hlt)
      have hlt' : (k : Int) < l.length := by omega
      have h20' : (k : Int) < 20 := by omega
      have hc := hcs k hlt
      have hc' : ∀ W, Below w.heap.size w W → W.cell? ⟨b, o + k, none⟩ = some (.int .u8 (l[k]).toNat) := fun W hb => (hb.cell (p := ⟨b, o + k, none⟩) hbk).trans hc
      obtain ⟨x, ex⟩ : ∃ x, l[k] = x := ⟨_, rfl⟩
      rw [ex] at hc'
      have HC := Lib.hid hc'
      have x0 : (0 : Int) ≤ x.toNat := by omega
      have xw : IntKind.i64.wrap (x.toNat : Int) = x.toNat := wrap_byte x
      have x1 : (x.toNat : Int) ≤ 255 := by have := x.toNat_lt; omega
      obtain ⟨q, hq, hoq⟩ := HP.out.write (pl := (x.toNat : Int).tmod 8) (Int.tmod_nonneg _ (by omega)) (Int.tmod_lt_of_pos _ (by decide)) (s := List.replicate 64 x) (by simp)
      have hst : p.steps < 1099511627776 := by have := HP.out.2.2.2; omega
      have HQ := Lib.hid hq
      have HOQ := Lib.hid hoq
      have HST := Lib.hid hst
      clear hc hc' ex hq hoq hst
      go_wp2_with fail
      refine wp_region_held_drew (S := (fun W => W.cell? ⟨b, o + k, none⟩ = some (.int .u8 x.toNat))) (by kernel_rfl) (HC.out _ HM.out.drew.base) (fun hHeld => ?_)
      refine wpAnyH_take (i := 0) (oi := { dst := some 58, op := Op.move (Operand.tmp 6), type := 24, pos := "law.go:235", after := #[], guard := none }) (v := ?_) rfl (by kernel_rfl) (by kernel_rfl) (by kernel_rfl) (fun _ _ _ h => h) (Or.inl ⟨by rfl, ?hyro_1⟩) (by assumption) ?restro_1
      case hyro_1 => (intro w hSw; (try dsimp only at hSw); go_simp; try with_reducible rfl)
      try simp only [Act.put, List.setIfInBounds_toArray, List.set_cons_zero, List.set_cons_succ]
      refine wpAnyH_take (i := 1) (oi := { dst := some 59, op := Op.move (Operand.tmp 0), type := 22, pos := "law.go:235", after := #[], guard := none }) (v := ?_) rfl (by kernel_rfl) (by kernel_rfl) (by kernel_rfl) (fun _ _ _ h => h) (Or.inl ⟨by rfl, ?hyro_4⟩) (by assumption) ?restro_4
      case hyro_4 => (intro w hSw; (try dsimp only at hSw); go_simp; try with_reducible rfl)
      try simp only [Act.put, List.setIfInBounds_toArray, List.set_cons_zero, List.set_cons_succ]
      refine wpAnyH_take (i := 2) (oi := { dst := some 60, op := Op.move (Operand.tmp 8), type := 3, pos := "law.go:235", after := #[], guard := none }) (v := ?_) rfl (by kernel_rfl) (by kernel_rfl) (by kernel_rfl) (fun _ _ _ h => h) (Or.inl ⟨by rfl, ?hyro_7⟩) (by assumption) ?restro_7
      case hyro_7 => (intro w hSw; (try dsimp only at hSw); go_simp; try with_reducible rfl)
      try simp only [Act.put, List.setIfInBounds_toArray, List.set_cons_zero, List.set_cons_succ]
      refine wpAnyH_take (i := 3) (oi := { dst := some 61, op := Op.indexAddr 22 (Operand.tmp 59) (Operand.tmp 60), type := 0, pos := "law.go:235", after := #[{ on := 1, ground := Ground.data }, { on := 2, ground := Ground.data }], guard := none }) (v := ?_) rfl (by kernel_rfl) (by kernel_rfl) (by kernel_rfl) (fun _ _ _ h => h) (Or.inl ⟨by rfl, ?hyro_10⟩) (by assumption) ?restro_10
      case hyro_10 => (intro w hSw; (try dsimp only at hSw); go_simp; try with_reducible rfl)
      try simp only [Act.put, List.setIfInBounds_toArray, List.set_cons_zero, List.set_cons_succ]
      refine wpAnyH_take (i := 4) (oi := { dst := some 62, op := Op.load 5 (Operand.tmp 61), type := 5, pos := "law.go:235", after := #[{ on := 3, ground := Ground.data }], guard := none }) (v := ?_) rfl (by kernel_rfl) (by kernel_rfl) (by kernel_rfl) (fun _ _ _ h => h) (Or.inl ⟨by rfl, ?hyro_13⟩) (by assumption) ?restro_13
      case hyro_13 => (intro w hSw; (try dsimp only at hSw); go_simp; try with_reducible rfl)
      try simp only [Act.put, List.setIfInBounds_toArray, List.set_cons_zero, List.set_cons_succ]
      refine wpAnyH_take (i := 5) (oi := { dst := some 63, op := Op.convert 5 3 (Operand.tmp 62), type := 3, pos := "law.go:235", after := #[{ on := 4, ground := Ground.data }], guard := none }) (v := ?_) rfl (by kernel_rfl) (by kernel_rfl) (by kernel_rfl) (fun _ _ _ h => h) (Or.inl ⟨by rfl, ?hyro_16⟩) (by assumption) ?restro_16
      case hyro_16 => (intro w hSw; (try dsimp only at hSw); go_simp; try with_reducible rfl)
      try simp only [Act.put, List.setIfInBounds_toArray, List.set_cons_zero, List.set_cons_succ]
      refine wpAnyH_take (i := 6) (oi := { dst := some 64, op := Op.binOp BinOp.rem 3 (Operand.tmp 63) (Operand.const (Value.int IntKind.i64 8)) 3, type := 3, pos := "law.go:235", after := #[{ on := 5, ground := Ground.data }], guard := none }) (v := ?_) rfl (by kernel_rfl) (by kernel_rfl) (by kernel_rfl) (fun _ _ _ h => h) (Or.inl ⟨by rfl, ?hyro_19⟩) (by assumption) ?restro_19
      case hyro_19 => (intro w hSw; (try dsimp only at hSw); go_simp; try with_reducible rfl)
      try simp only [Act.put, List.setIfInBounds_toArray, List.set_cons_zero, List.set_cons_succ]
      refine wpAnyH_take (i := 7) (oi := { dst := some 65, op := Op.move (Operand.tmp 0), type := 22, pos := "law.go:235", after := #[], guard := none }) (v := ?_) rfl (by kernel_rfl) (by kernel_rfl) (by kernel_rfl) (fun _ _ _ h => h) (Or.inl ⟨by rfl, ?hyro_22⟩) (by assumption) ?restro_22
      case hyro_22 => (intro w hSw; (try dsimp only at hSw); go_simp; try with_reducible rfl)
      try simp only [Act.put, List.setIfInBounds_toArray, List.set_cons_zero, List.set_cons_succ]
      refine wpAnyH_take (i := 8) (oi := { dst := some 66, op := Op.move (Operand.tmp 8), type := 3, pos := "law.go:235", after := #[], guard := none }) (v := ?_) rfl (by kernel_rfl) (by kernel_rfl) (by kernel_rfl) (fun _ _ _ h => h) (Or.inl ⟨by rfl, ?hyro_25⟩) (by assumption) ?restro_25
      case hyro_25 => (intro w hSw; (try dsimp only at hSw); go_simp; try with_reducible rfl)
      try simp only [Act.put, List.setIfInBounds_toArray, List.set_cons_zero, List.set_cons_succ]
      refine wpAnyH_take (i := 9) (oi := { dst := some 67, op := Op.indexAddr 22 (Operand.tmp 65) (Operand.tmp 66), type := 0, pos := "law.go:235", after := #[{ on := 7, ground := Ground.data }, { on := 8, ground := Ground.data }], guard := none }) (v := ?_) rfl (by kernel_rfl) (by kernel_rfl) (by kernel_rfl) (fun _ _ _ h => h) (Or.inl ⟨by rfl, ?hyro_28⟩) (by assumption) ?restro_28
      case hyro_28 => (intro w hSw; (try dsimp only at hSw); go_simp; try with_reducible rfl)
      try simp only [Act.put, List.setIfInBounds_toArray, List.set_cons_zero, List.set_cons_succ]
      refine wpAnyH_take (i := 10) (oi := { dst := some 68, op := Op.load 5 (Operand.tmp 67), type := 5, pos := "law.go:235", after := #[{ on := 9, ground := Ground.data }], guard := none }) (v := ?_) rfl (by kernel_rfl) (by kernel_rfl) (by kernel_rfl) (fun _ _ _ h => h) (Or.inl ⟨by rfl, ?hyro_31⟩) (by assumption) ?restro_31
      case hyro_31 => (intro w hSw; (try dsimp only at hSw); go_simp; try with_reducible rfl)
      try simp only [Act.put, List.setIfInBounds_toArray, List.set_cons_zero, List.set_cons_succ]
      refine wpAnyH_ready (rs := [11]) (by kernel_rfl) (by simp) (AllReadyH.cons (o := { dst := some 69, op := Op.call { callee := Callee.value (Operand.func 18), args := #[Operand.tmp 68], argTypes := #[5] }, type := 22, pos := "law.go:235", after := #[{ on := 10, ground := Ground.data }], guard := none }) rfl (fun K hK => ?_) AllReadyH.nil)
      go_simp
      refine (full_any x _).mono ?_
      rintro e w5 ⟨H5, rfl, b5, s5, c5⟩
      have h5 := HM.out.drew.add b5 s5 c5
      refine hK.out _ _ (HC.out _ h5.base) (fun hHeld => ?_)
      clear hK K
      try simp only [Act.put, List.setIfInBounds_toArray, List.set_cons_zero, List.set_cons_succ]
      refine wpAnyH_ready (rs := [12]) (by kernel_rfl) (by simp) (AllReadyH.cons (o := { dst := some 70, op := Op.call { callee := Callee.value (Operand.func 12), args := #[Operand.tmp 58, Operand.const (Value.int IntKind.i64 0), Operand.tmp 64, Operand.tmp 69], argTypes := #[24, 3, 3, 22] }, type := 25, pos := "law.go:235", after := #[{ on := 0, ground := Ground.data }, { on := 6, ground := Ground.data }, { on := 11, ground := Ground.data }, { on := 11, ground := Ground.chain }], guard := none }) rfl (fun K hK => ?_) AllReadyH.nil)
      go_simp
      refine (write_many (H := H5) (s := List.replicate 64 x) (by simp) h5 (by simp) HST.out 0 _ HQ.out).mono ?_
      rintro e w6 ⟨rfl, h6⟩
      refine hK.out _ _ (HC.out _ h6.base) (fun hHeld => ?_)
      clear hK K
      try simp only [Act.put, List.setIfInBounds_toArray, List.set_cons_zero, List.set_cons_succ]
      refine wpAnyH_take (i := 13) (oi := { dst := some 9, op := Op.assign (Operand.tmp 70), type := 25, pos := "law.go:235", after := #[{ on := 12, ground := Ground.data }, { on := 12, ground := Ground.chain }, { on := 0, ground := Ground.phase }, { on := 1, ground := Ground.phase }, { on := 2, ground := Ground.phase }, { on := 3, ground := Ground.phase }, { on := 4, ground := Ground.phase }, { on := 5, ground := Ground.phase }, { on := 6, ground := Ground.phase }, { on := 7, ground := Ground.phase }, { on := 8, ground := Ground.phase }, { on := 9, ground := Ground.phase }, { on := 10, ground := Ground.phase }, { on := 11, ground := Ground.phase }, { on := 12, ground := Ground.phase }], guard := none }) (v := ?_) rfl (by kernel_rfl) (by kernel_rfl) (by kernel_rfl) (fun _ _ _ h => h) (Or.inl ⟨by rfl, ?hyro_49⟩) (by assumption) ?restro_49
      case hyro_49 => (intro w hSw; (try dsimp only at hSw); go_simp; try with_reducible rfl)
      try simp only [Act.put, List.setIfInBounds_toArray, List.set_cons_zero, List.set_cons_succ]
      refine wpAnyH_done (by kernel_rfl) ?_ _
      clear hHeld h5 c5 s5 b5 xw x0 x1 HST HC
      by_cases hkf : (k : Int) < f
      · rw [if_pos hkf]
        go_wp2_with fail
        go_roundw
        case rel => exact ⟨k + 1, q, by omega, by omega, by go_num, HOQ.out, h6.drop (by simp)⟩
        case measure => simp [intOf]; omega
      · rw [if_neg hkf]
        go_wp2_with fail
        go_roundw
        case rel => exact ⟨k + 1, q, by omega, by omega, by go_num, HOQ.out, h6.drop (by simp)⟩
        case measure => simp [intOf]; omega
    · have hend : min (k : Int) f = min (min f l.length) 20 := by omega
      have hdn := HP.out.end
      have HE := Lib.hid hend
      clear HP hend
      by_cases hlt : k < l.length
      have hlt' : (k : Int) < l.length := by omega
      have h20' : ¬ (k : Int) < 20 := by omega
      rotate_left
      have hlt' : ¬ (k : Int) < l.length := by omega
      rotate_left
      all_goals
        go_wp2_with fail
        all_goals
          obtain ⟨q, e1, e2, e3, e4, e5⟩ := hdn
          have hst0 : (p.fuseAt 0).steps < 1099511627776 := by omega
          have hst1 : q.steps < 1099511627776 := by omega
          have hsq : q.steps = f ∨ q.steps = (l.length : Int) := by omega
          refine (fuse_many HM.out 0 (by decide)).mono ?_
          rintro e x1 ⟨rfl, m1⟩
          have M1 := Lib.hid m1
          have E1 := Lib.hid e1
          have E2 := Lib.hid e2
          have E3 := Lib.hid e3
          have HST0 := Lib.hid hst0
          have HST1 := Lib.hid hst1
          have SO := Lib.hid (off_stays e3)
          clear m1 e1 e2 e3 hst0 hst1 hsq
          go_wp2_with fail
          refine (flush_many M1.out HST0.out 0 E1.out).mono ?_
          rintro e x2 ⟨rfl, m2⟩
          go_wp2_with fail
          refine (clone_many m2 HST1.out).mono ?_
          rintro e x3 ⟨r, rfl, m3⟩
          have M3 := Lib.hid m3.swap
          clear m2 m3
          go_wp2_with fail
          refine (steps_many M3.out).mono ?_
          rintro e x4 ⟨rfl, rfl⟩
          first
            | rw [show q.steps = f by have := HE.out; omega]
            | rw [show q.steps = (l.length : Int) by have := HE.out; omega]
          go_wp2_with fail
          refine (on_many M3.out).mono ?_
          rintro e x5 ⟨rfl, rfl⟩
          rw [E3.out]
          go_wp2_with fail
          refine (read_many_no M3.out 0 0 (r := 2) (SO.out.2.2.2 _ _) (by decide)).mono ?_
          rintro e x6 ⟨rfl, m6⟩
          have M6 := Lib.hid m6
          clear m6 M3
          go_wp2_with fail
          refine (HFULL.out _).mono ?_
          rintro e x7 ⟨H9, rfl, b7, s7, c7⟩
          go_wp2_with fail
          refine (write_many (n := 64) (H := H9) (s := List.replicate 64 9) (by simp) (M6.out.add b7 s7 c7) (by simp) HST1.out 0 0 (SO.out.1 _ _ _)).mono ?_
          rintro e x8 ⟨rfl, m8⟩
          have M8 := Lib.hid m8
          clear m8 M6 b7 s7 c7
          go_wp2_with fail
          refine (flush_many M8.out HST1.out 0 (SO.out.2.1 0)).mono ?_
          rintro e x9 ⟨rfl, m9⟩
          go_wp2_with fail
          refine (fuse_many m9 3 (by decide)).mono ?_
          rintro e y1 ⟨rfl, n1⟩
          rw [SO.out.2.2.1] at n1
          have N1 := Lib.hid n1
          clear m9 n1 M8
          go_wp2_with fail
          refine (on_many N1.out).mono ?_
          rintro e y2 ⟨rfl, rfl⟩
          rw [E3.out]
          go_wp2_with fail
          refine (steps_many N1.out).mono ?_
          rintro e y3 ⟨rfl, rfl⟩
          first
            | rw [show q.steps = f by have := HE.out; omega]
            | rw [show q.steps = (l.length : Int) by have := HE.out; omega]
          have HB1 := Lib.hid (boot_many (N1.out.below ((Below.refl _ _).alloc (Nat.le_refl _) (.cells #[.int .i64 1] 3))) HST1.out (ints_lit (zs := [1]) (heap_alloc_last y3 (.cells #[.int .i64 1] 3)) (by decide)))
          go_wp2_with fail
          refine HB1.out.mono ?_
          rintro e y4 ⟨rfl, n4⟩
          have n4 := n4.swap
          have HB2 := Lib.hid (boot_many (n4.below ((Below.refl _ _).alloc (Nat.le_refl _) (.cells #[.int .i64 1] 3))) HST1.out (ints_lit (zs := [1]) (heap_alloc_last y4 (.cells #[.int .i64 1] 3)) (by decide)))
          clear n4 HB1 N1
          go_wp2_with fail
          refine HB2.out.mono ?_
          rintro e y5 ⟨rfl, n5⟩
          have N5 := Lib.hid (n5.swap.drop (G := []) (by simp))
          have RE := Lib.hid (off_boot E2.out)
          have ON : Hid ((q.boot [1]).off = false) := Lib.hid rfl
          have WL : Hid (∀ k, ((q.boot [1]).sec 0 k).length = 64) := Lib.hid (sec_len n5)
          obtain ⟨Q, eQ⟩ : ∃ Q, q.boot [1] = Q := ⟨_, rfl⟩
          rw [eQ] at N5 RE ON WL
          clear n5 HB2 eQ E2 E3 SO HE HST0 HST1 E1 M1 HFULL
          go_wp2_with fail
          go_loopw [17] (fun i wr => ∃ k : Nat, k ≤ 8 ∧ i = .int .i64 k ∧ Many w [(g, Q), (r, Q)] [] wr) (fun i _ => 64 - (intOf i).toNat)
          case atStart => exact ⟨0, by omega, rfl, N5.out⟩
          case round =>
            obtain ⟨k, hk, rfl, hm⟩ := hrel
            have HM := Lib.hid hm
            clear hm
            by_cases hlt : k < 8
            · have hlt8 : (k : Int) < 8 := by omega
              go_wp2_with fail
              refine (read_many HM.out 0 (k : Int) (RE.out _ (by omega) hlt8) (s := Q.sec 0 k) rfl).mono ?_
              rintro e z1 ⟨X, rfl, _, r1⟩
              have r1 := r1.swap
              go_wp2_with fail
              refine (read_many r1 0 (k : Int) (RE.out _ (by omega) hlt8) (s := Q.sec 0 k) rfl).mono ?_
              rintro e z2 ⟨Y, rfl, _, r2⟩
              obtain ⟨s, es⟩ : ∃ s, Q.sec 0 k = s := ⟨_, rfl⟩
              have ls := WL.out k
              rw [es] at r2 ls
              have k1 := conv_sec (r2.at (H := X) (s := s) (by simp)) 0 64 64 (by omega) (x := s) (by rw [List.drop_zero, List.take_of_length_le (Nat.le_of_eq ls)])
              have k2 := conv_sec (r2.at (H := Y) (s := s) (by simp)) 0 64 64 (by omega) (x := s) (by rw [List.drop_zero, List.take_of_length_le (Nat.le_of_eq ls)])
              have K1 := Lib.hid k1
              have K2 := Lib.hid k2
              have R2 := Lib.hid (r2.swap.drop (G := []) (by simp))
              have hcs : ((secStr s).toList == (secStr s).toList) = true := by simp
              clear r1 r2 k1 k2 es ls
              go_wp2_with (rw [K1.out])
              go_wp2_with (rw [K2.out])
              go_roundw
              case rel => exact ⟨k + 1, by omega, by go_num, R2.out⟩
              case measure => simp [intOf]; omega
            · obtain rfl : k = 8 := by omega
              go_wp2_with fail
              refine (on_many HM.out).mono ?_
              rintro e z1 ⟨rfl, rfl⟩
              rw [ON.out]
              go_wp2_with fail
              go_ret
              exact ⟨rfl, HM.out.base⟩
set_option maxHeartbeats 4000000 in
set_option maxRecDepth 100000 in
theorem off_pos (w : World) {A : Option Addr} {c : Nat} {l : Sec} {n : Int} (hn : -9223372036854775808 ≤ n ∧ n ≤ 9223372036854775807) (hl : l.length ≤ 1048576) (c0 : 0 ≤ n) (h0 : BytesIn w A l) :
    Calls Try.prog 7 #[.slice A l.length c, .int .i64 n] w fun e w' => e = .returned (.bool true) ∧ Below w.heap.size w w' := by
  have HS := Lib.hid (shown_any w)
  have H0 := Lib.hid h0
  clear h0
  go_enter Try.func7, Try.ntmps7
  go_wp2_with fail
  refine HS.out.mono ?_
  rintro e w1 ⟨rfl, b1⟩
  have HN := Lib.hid (new_own (b1.alloc b1.size (.cells #[.int .i64 8] 3)) (ints_lit (zs := [8]) (heap_alloc_last w1 (.cells #[.int .i64 8] 3)) (by decide)) (by decide))
  go_wp2_with fail
  refine HN.out.mono ?_
  rintro e w2 ⟨g, rfl, n2⟩
  clear HN
  have HM := Lib.hid n2.mine.many
  clear n2 HS b1
  have HFULL : Hid (∀ W, Calls Try.prog 18 #[.int .u8 9] W (SecAt (List.replicate 64 9) W)) := Lib.hid fun W => full_any 9 W
  have hf : ∃ f : Int, (if n < 0 then -(n + 1).tmod 12 else n.tmod 12) = f ∧ 0 ≤ f ∧ f < 12 := by
    rcases Int.lt_or_le n 0 with d | d
    · have t0 := Int.tmod_nonneg (a := -(n + 1)) 12 (by omega)
      have t1 := Int.tmod_lt_of_pos (-(n + 1)) (b := 12) (by decide)
      rw [Int.neg_tmod] at t0 t1
      exact ⟨_, if_pos d, t0, t1⟩
    · exact ⟨_, if_neg (by omega), Int.tmod_nonneg (a := n) 12 d, Int.tmod_lt_of_pos n (b := 12) (by decide)⟩
  obtain ⟨f, ef, hf0, hf1⟩ := hf
  rw [if_neg (by omega)] at ef
  go_wp2_with fail
  clear ef c0
  refine (fuse_many HM.out f (by omega)).mono ?_
  rintro e w3 ⟨rfl, h3⟩
  have hp : OffAt f 0 ((PS.new (List.map Int.toNat [8])).fuseAt f) := ⟨rfl, by simp [PS.fuseAt, PS.new]; omega, by simp [PS.fuseAt, PS.new]; omega, by simp [PS.fuseAt, PS.new]; omega⟩
  obtain ⟨p, ep⟩ : ∃ p, (PS.new (List.map Int.toNat [8])).fuseAt f = p := ⟨_, rfl⟩
  rw [ep] at h3 hp
  clear ep HM
  have H3 := Lib.hid h3
  have HP := Lib.hid hp
  clear h3 hp
  go_wp2_with fail
  go_loopw [8] (fun i wr => ∃ (k : Nat) (p : PS), k ≤ 20 ∧ k ≤ l.length ∧ i = .int .i64 k ∧ OffAt f k p ∧ Many w [(g, p)] [] wr) (fun i _ => 64 - (intOf i).toNat)
  case atStart => exact ⟨0, p, by omega, by omega, rfl, HP.out, H3.out⟩
  case round =>
    obtain ⟨k, p, hk, hkl, rfl, hp, hm⟩ := hrel
    have HM := Lib.hid hm
    have HP := Lib.hid hp
    clear hm hp
    by_cases hgo : k < l.length ∧ k < 20
    · obtain ⟨hlt, h20⟩ := hgo
      obtain ⟨b, o, rfl, hbk, hcs⟩ := H0.out.shape (by intro h; subst h; simp at hlt)
      have hlt' : (k : Int) < l.length := by omega
      have h20' : (k : Int) < 20 := by omega
      have hc := hcs k hlt
      have hc' : ∀ W, Below w.heap.size w W → W.cell? ⟨b, o + k, none⟩ = some (.int .u8 (l[k]).toNat) := fun W hb => (hb.cell (p := ⟨b, o + k, none⟩) hbk).trans hc
      obtain ⟨x, ex⟩ : ∃ x, l[k] = x := ⟨_, rfl⟩
      rw [ex] at hc'
      have HC := Lib.hid hc'
      have x0 : (0 : Int) ≤ x.toNat := by omega
      have xw : IntKind.i64.wrap (x.toNat : Int) = x.toNat := wrap_byte x
      have x1 : (x.toNat : Int) ≤ 255 := by have := x.toNat_lt; omega
      obtain ⟨q, hq, hoq⟩ := HP.out.write (pl := (x.toNat : Int).tmod 8) (Int.tmod_nonneg _ (by omega)) (Int.tmod_lt_of_pos _ (by decide)) (s := List.replicate 64 x) (by simp)
      have hst : p.steps < 1099511627776 := by have := HP.out.2.2.2; omega
      have HQ := Lib.hid hq
      have HOQ := Lib.hid hoq
      have HST := Lib.hid hst
      clear hc hc' ex hq hoq hst
      go_wp2_with fail
      refine wp_region_held_drew (S := (fun W => W.cell? ⟨b, o + k, none⟩ = some (.int .u8 x.toNat))) (by kernel_rfl) (HC.out _ HM.out.drew.base) (fun hHeld => ?_)
      refine wpAnyH_take (i := 0) (oi := { dst := some 58, op := Op.move (Operand.tmp 6), type := 24, pos := "law.go:235", after := #[], guard := none }) (v := ?_) rfl (by kernel_rfl) (by kernel_rfl) (by kernel_rfl) (fun _ _ _ h => h) (Or.inl ⟨by rfl, ?hyro_1⟩) (by assumption) ?restro_1
      case hyro_1 => (intro w hSw; (try dsimp only at hSw); go_simp; try with_reducible rfl)
      try simp only [Act.put, List.setIfInBounds_toArray, List.set_cons_zero, List.set_cons_succ]
      refine wpAnyH_take (i := 1) (oi := { dst := some 59, op := Op.move (Operand.tmp 0), type := 22, pos := "law.go:235", after := #[], guard := none }) (v := ?_) rfl (by kernel_rfl) (by kernel_rfl) (by kernel_rfl) (fun _ _ _ h => h) (Or.inl ⟨by rfl, ?hyro_4⟩) (by assumption) ?restro_4
      case hyro_4 => (intro w hSw; (try dsimp only at hSw); go_simp; try with_reducible rfl)
      try simp only [Act.put, List.setIfInBounds_toArray, List.set_cons_zero, List.set_cons_succ]
      refine wpAnyH_take (i := 2) (oi := { dst := some 60, op := Op.move (Operand.tmp 8), type := 3, pos := "law.go:235", after := #[], guard := none }) (v := ?_) rfl (by kernel_rfl) (by kernel_rfl) (by kernel_rfl) (fun _ _ _ h => h) (Or.inl ⟨by rfl, ?hyro_7⟩) (by assumption) ?restro_7
      case hyro_7 => (intro w hSw; (try dsimp only at hSw); go_simp; try with_reducible rfl)
      try simp only [Act.put, List.setIfInBounds_toArray, List.set_cons_zero, List.set_cons_succ]
      refine wpAnyH_take (i := 3) (oi := { dst := some 61, op := Op.indexAddr 22 (Operand.tmp 59) (Operand.tmp 60), type := 0, pos := "law.go:235", after := #[{ on := 1, ground := Ground.data }, { on := 2, ground := Ground.data }], guard := none }) (v := ?_) rfl (by kernel_rfl) (by kernel_rfl) (by kernel_rfl) (fun _ _ _ h => h) (Or.inl ⟨by rfl, ?hyro_10⟩) (by assumption) ?restro_10
      case hyro_10 => (intro w hSw; (try dsimp only at hSw); go_simp; try with_reducible rfl)
      try simp only [Act.put, List.setIfInBounds_toArray, List.set_cons_zero, List.set_cons_succ]
      refine wpAnyH_take (i := 4) (oi := { dst := some 62, op := Op.load 5 (Operand.tmp 61), type := 5, pos := "law.go:235", after := #[{ on := 3, ground := Ground.data }], guard := none }) (v := ?_) rfl (by kernel_rfl) (by kernel_rfl) (by kernel_rfl) (fun _ _ _ h => h) (Or.inl ⟨by rfl, ?hyro_13⟩) (by assumption) ?restro_13
      case hyro_13 => (intro w hSw; (try dsimp only at hSw); go_simp; try with_reducible rfl)
      try simp only [Act.put, List.setIfInBounds_toArray, List.set_cons_zero, List.set_cons_succ]
      refine wpAnyH_take (i := 5) (oi := { dst := some 63, op := Op.convert 5 3 (Operand.tmp 62), type := 3, pos := "law.go:235", after := #[{ on := 4, ground := Ground.data }], guard := none }) (v := ?_) rfl (by kernel_rfl) (by kernel_rfl) (by kernel_rfl) (fun _ _ _ h => h) (Or.inl ⟨by rfl, ?hyro_16⟩) (by assumption) ?restro_16
      case hyro_16 => (intro w hSw; (try dsimp only at hSw); go_simp; try with_reducible rfl)
      try simp only [Act.put, List.setIfInBounds_toArray, List.set_cons_zero, List.set_cons_succ]
      refine wpAnyH_take (i := 6) (oi := { dst := some 64, op := Op.binOp BinOp.rem 3 (Operand.tmp 63) (Operand.const (Value.int IntKind.i64 8)) 3, type := 3, pos := "law.go:235", after := #[{ on := 5, ground := Ground.data }], guard := none }) (v := ?_) rfl (by kernel_rfl) (by kernel_rfl) (by kernel_rfl) (fun _ _ _ h => h) (Or.inl ⟨by rfl, ?hyro_19⟩) (by assumption) ?restro_19
      case hyro_19 => (intro w hSw; (try dsimp only at hSw); go_simp; try with_reducible rfl)
      try simp only [Act.put, List.setIfInBounds_toArray, List.set_cons_zero, List.set_cons_succ]
      refine wpAnyH_take (i := 7) (oi := { dst := some 65, op := Op.move (Operand.tmp 0), type := 22, pos := "law.go:235", after := #[], guard := none }) (v := ?_) rfl (by kernel_rfl) (by kernel_rfl) (by kernel_rfl) (fun _ _ _ h => h) (Or.inl ⟨by rfl, ?hyro_22⟩) (by assumption) ?restro_22
      case hyro_22 => (intro w hSw; (try dsimp only at hSw); go_simp; try with_reducible rfl)
      try simp only [Act.put, List.setIfInBounds_toArray, List.set_cons_zero, List.set_cons_succ]
      refine wpAnyH_take (i := 8) (oi := { dst := some 66, op := Op.move (Operand.tmp 8), type := 3, pos := "law.go:235", after := #[], guard := none }) (v := ?_) rfl (by kernel_rfl) (by kernel_rfl) (by kernel_rfl) (fun _ _ _ h => h) (Or.inl ⟨by rfl, ?hyro_25⟩) (by assumption) ?restro_25
      case hyro_25 => (intro w hSw; (try dsimp only at hSw); go_simp; try with_reducible rfl)
      try simp only [Act.put, List.setIfInBounds_toArray, List.set_cons_zero, List.set_cons_succ]
      refine wpAnyH_take (i := 9) (oi := { dst := some 67, op := Op.indexAddr 22 (Operand.tmp 65) (Operand.tmp 66), type := 0, pos := "law.go:235", after := #[{ on := 7, ground := Ground.data }, { on := 8, ground := Ground.data }], guard := none }) (v := ?_) rfl (by kernel_rfl) (by kernel_rfl) (by kernel_rfl) (fun _ _ _ h => h) (Or.inl ⟨by rfl, ?hyro_28⟩) (by assumption) ?restro_28
      case hyro_28 => (intro w hSw; (try dsimp only at hSw); go_simp; try with_reducible rfl)
      try simp only [Act.put, List.setIfInBounds_toArray, List.set_cons_zero, List.set_cons_succ]
      refine wpAnyH_take (i := 10) (oi := { dst := some 68, op := Op.load 5 (Operand.tmp 67), type := 5, pos := "law.go:235", after := #[{ on := 9, ground := Ground.data }], guard := none }) (v := ?_) rfl (by kernel_rfl) (by kernel_rfl) (by kernel_rfl) (fun _ _ _ h => h) (Or.inl ⟨by rfl, ?hyro_31⟩) (by assumption) ?restro_31
      case hyro_31 => (intro w hSw; (try dsimp only at hSw); go_simp; try with_reducible rfl)
      try simp only [Act.put, List.setIfInBounds_toArray, List.set_cons_zero, List.set_cons_succ]
      refine wpAnyH_ready (rs := [11]) (by kernel_rfl) (by simp) (AllReadyH.cons (o := { dst := some 69, op := Op.call { callee := Callee.value (Operand.func 18), args := #[Operand.tmp 68], argTypes := #[5] }, type := 22, pos := "law.go:235", after := #[{ on := 10, ground := Ground.data }], guard := none }) rfl (fun K hK => ?_) AllReadyH.nil)
      go_simp
      refine (full_any x _).mono ?_
      rintro e w5 ⟨H5, rfl, b5, s5, c5⟩
      have h5 := HM.out.drew.add b5 s5 c5
      refine hK.out _ _ (HC.out _ h5.base) (fun hHeld => ?_)
      clear hK K
      try simp only [Act.put, List.setIfInBounds_toArray, List.set_cons_zero, List.set_cons_succ]
      refine wpAnyH_ready (rs := [12]) (by kernel_rfl) (by simp) (AllReadyH.cons (o := { dst := some 70, op := Op.call { callee := Callee.value (Operand.func 12), args := #[Operand.tmp 58, Operand.const (Value.int IntKind.i64 0), Operand.tmp 64, Operand.tmp 69], argTypes := #[24, 3, 3, 22] }, type := 25, pos := "law.go:235", after := #[{ on := 0, ground := Ground.data }, { on := 6, ground := Ground.data }, { on := 11, ground := Ground.data }, { on := 11, ground := Ground.chain }], guard := none }) rfl (fun K hK => ?_) AllReadyH.nil)
      go_simp
      refine (write_many (H := H5) (s := List.replicate 64 x) (by simp) h5 (by simp) HST.out 0 _ HQ.out).mono ?_
      rintro e w6 ⟨rfl, h6⟩
      refine hK.out _ _ (HC.out _ h6.base) (fun hHeld => ?_)
      clear hK K
      try simp only [Act.put, List.setIfInBounds_toArray, List.set_cons_zero, List.set_cons_succ]
      refine wpAnyH_take (i := 13) (oi := { dst := some 9, op := Op.assign (Operand.tmp 70), type := 25, pos := "law.go:235", after := #[{ on := 12, ground := Ground.data }, { on := 12, ground := Ground.chain }, { on := 0, ground := Ground.phase }, { on := 1, ground := Ground.phase }, { on := 2, ground := Ground.phase }, { on := 3, ground := Ground.phase }, { on := 4, ground := Ground.phase }, { on := 5, ground := Ground.phase }, { on := 6, ground := Ground.phase }, { on := 7, ground := Ground.phase }, { on := 8, ground := Ground.phase }, { on := 9, ground := Ground.phase }, { on := 10, ground := Ground.phase }, { on := 11, ground := Ground.phase }, { on := 12, ground := Ground.phase }], guard := none }) (v := ?_) rfl (by kernel_rfl) (by kernel_rfl) (by kernel_rfl) (fun _ _ _ h => h) (Or.inl ⟨by rfl, ?hyro_49⟩) (by assumption) ?restro_49
      case hyro_49 => (intro w hSw; (try dsimp only at hSw); go_simp; try with_reducible rfl)
      try simp only [Act.put, List.setIfInBounds_toArray, List.set_cons_zero, List.set_cons_succ]
      refine wpAnyH_done (by kernel_rfl) ?_ _
      clear hHeld h5 c5 s5 b5 xw x0 x1 HST HC
      by_cases hkf : (k : Int) < f
      · rw [if_pos hkf]
        go_wp2_with fail
        go_roundw
        case rel => exact ⟨k + 1, q, by omega, by omega, by go_num, HOQ.out, h6.drop (by simp)⟩
        case measure => simp [intOf]; omega
      · rw [if_neg hkf]
        go_wp2_with fail
        go_roundw
        case rel => exact ⟨k + 1, q, by omega, by omega, by go_num, HOQ.out, h6.drop (by simp)⟩
        case measure => simp [intOf]; omega
    · have hend : min (k : Int) f = min (min f l.length) 20 := by omega
      have hdn := HP.out.end
      have HE := Lib.hid hend
      clear HP hend
      by_cases hlt : k < l.length
      have hlt' : (k : Int) < l.length := by omega
      have h20' : ¬ (k : Int) < 20 := by omega
      rotate_left
      have hlt' : ¬ (k : Int) < l.length := by omega
      rotate_left
      all_goals
        go_wp2_with fail
        all_goals
          obtain ⟨q, e1, e2, e3, e4, e5⟩ := hdn
          have hst0 : (p.fuseAt 0).steps < 1099511627776 := by omega
          have hst1 : q.steps < 1099511627776 := by omega
          have hsq : q.steps = f ∨ q.steps = (l.length : Int) := by omega
          refine (fuse_many HM.out 0 (by decide)).mono ?_
          rintro e x1 ⟨rfl, m1⟩
          have M1 := Lib.hid m1
          have E1 := Lib.hid e1
          have E2 := Lib.hid e2
          have E3 := Lib.hid e3
          have HST0 := Lib.hid hst0
          have HST1 := Lib.hid hst1
          have SO := Lib.hid (off_stays e3)
          clear m1 e1 e2 e3 hst0 hst1 hsq
          go_wp2_with fail
          refine (flush_many M1.out HST0.out 0 E1.out).mono ?_
          rintro e x2 ⟨rfl, m2⟩
          go_wp2_with fail
          refine (clone_many m2 HST1.out).mono ?_
          rintro e x3 ⟨r, rfl, m3⟩
          have M3 := Lib.hid m3.swap
          clear m2 m3
          go_wp2_with fail
          refine (steps_many M3.out).mono ?_
          rintro e x4 ⟨rfl, rfl⟩
          first
            | rw [show q.steps = f by have := HE.out; omega]
            | rw [show q.steps = (l.length : Int) by have := HE.out; omega]
          go_wp2_with fail
          refine (on_many M3.out).mono ?_
          rintro e x5 ⟨rfl, rfl⟩
          rw [E3.out]
          go_wp2_with fail
          refine (read_many_no M3.out 0 0 (r := 2) (SO.out.2.2.2 _ _) (by decide)).mono ?_
          rintro e x6 ⟨rfl, m6⟩
          have M6 := Lib.hid m6
          clear m6 M3
          go_wp2_with fail
          refine (HFULL.out _).mono ?_
          rintro e x7 ⟨H9, rfl, b7, s7, c7⟩
          go_wp2_with fail
          refine (write_many (n := 64) (H := H9) (s := List.replicate 64 9) (by simp) (M6.out.add b7 s7 c7) (by simp) HST1.out 0 0 (SO.out.1 _ _ _)).mono ?_
          rintro e x8 ⟨rfl, m8⟩
          have M8 := Lib.hid m8
          clear m8 M6 b7 s7 c7
          go_wp2_with fail
          refine (flush_many M8.out HST1.out 0 (SO.out.2.1 0)).mono ?_
          rintro e x9 ⟨rfl, m9⟩
          go_wp2_with fail
          refine (fuse_many m9 3 (by decide)).mono ?_
          rintro e y1 ⟨rfl, n1⟩
          rw [SO.out.2.2.1] at n1
          have N1 := Lib.hid n1
          clear m9 n1 M8
          go_wp2_with fail
          refine (on_many N1.out).mono ?_
          rintro e y2 ⟨rfl, rfl⟩
          rw [E3.out]
          go_wp2_with fail
          refine (steps_many N1.out).mono ?_
          rintro e y3 ⟨rfl, rfl⟩
          first
            | rw [show q.steps = f by have := HE.out; omega]
            | rw [show q.steps = (l.length : Int) by have := HE.out; omega]
          have HB1 := Lib.hid (boot_many (N1.out.below ((Below.refl _ _).alloc (Nat.le_refl _) (.cells #[.int .i64 1] 3))) HST1.out (ints_lit (zs := [1]) (heap_alloc_last y3 (.cells #[.int .i64 1] 3)) (by decide)))
          go_wp2_with fail
          refine HB1.out.mono ?_
          rintro e y4 ⟨rfl, n4⟩
          have n4 := n4.swap
          have HB2 := Lib.hid (boot_many (n4.below ((Below.refl _ _).alloc (Nat.le_refl _) (.cells #[.int .i64 1] 3))) HST1.out (ints_lit (zs := [1]) (heap_alloc_last y4 (.cells #[.int .i64 1] 3)) (by decide)))
          clear n4 HB1 N1
          go_wp2_with fail
          refine HB2.out.mono ?_
          rintro e y5 ⟨rfl, n5⟩
          have N5 := Lib.hid (n5.swap.drop (G := []) (by simp))
          have RE := Lib.hid (off_boot E2.out)
          have ON : Hid ((q.boot [1]).off = false) := Lib.hid rfl
          have WL : Hid (∀ k, ((q.boot [1]).sec 0 k).length = 64) := Lib.hid (sec_len n5)
          obtain ⟨Q, eQ⟩ : ∃ Q, q.boot [1] = Q := ⟨_, rfl⟩
          rw [eQ] at N5 RE ON WL
          clear n5 HB2 eQ E2 E3 SO HE HST0 HST1 E1 M1 HFULL
          go_wp2_with fail
          go_loopw [17] (fun i wr => ∃ k : Nat, k ≤ 8 ∧ i = .int .i64 k ∧ Many w [(g, Q), (r, Q)] [] wr) (fun i _ => 64 - (intOf i).toNat)
          case atStart => exact ⟨0, by omega, rfl, N5.out⟩
          case round =>
            obtain ⟨k, hk, rfl, hm⟩ := hrel
            have HM := Lib.hid hm
            clear hm
            by_cases hlt : k < 8
            · have hlt8 : (k : Int) < 8 := by omega
              go_wp2_with fail
              refine (read_many HM.out 0 (k : Int) (RE.out _ (by omega) hlt8) (s := Q.sec 0 k) rfl).mono ?_
              rintro e z1 ⟨X, rfl, _, r1⟩
              have r1 := r1.swap
              go_wp2_with fail
              refine (read_many r1 0 (k : Int) (RE.out _ (by omega) hlt8) (s := Q.sec 0 k) rfl).mono ?_
              rintro e z2 ⟨Y, rfl, _, r2⟩
              obtain ⟨s, es⟩ : ∃ s, Q.sec 0 k = s := ⟨_, rfl⟩
              have ls := WL.out k
              rw [es] at r2 ls
              have k1 := conv_sec (r2.at (H := X) (s := s) (by simp)) 0 64 64 (by omega) (x := s) (by rw [List.drop_zero, List.take_of_length_le (Nat.le_of_eq ls)])
              have k2 := conv_sec (r2.at (H := Y) (s := s) (by simp)) 0 64 64 (by omega) (x := s) (by rw [List.drop_zero, List.take_of_length_le (Nat.le_of_eq ls)])
              have K1 := Lib.hid k1
              have K2 := Lib.hid k2
              have R2 := Lib.hid (r2.swap.drop (G := []) (by simp))
              have hcs : ((secStr s).toList == (secStr s).toList) = true := by simp
              clear r1 r2 k1 k2 es ls
              go_wp2_with (rw [K1.out])
              go_wp2_with (rw [K2.out])
              go_roundw
              case rel => exact ⟨k + 1, by omega, by go_num, R2.out⟩
              case measure => simp [intOf]; omega
            · obtain rfl : k = 8 := by omega
              go_wp2_with fail
              refine (on_many HM.out).mono ?_
              rintro e z1 ⟨rfl, rfl⟩
              rw [ON.out]
              go_wp2_with fail
              go_ret
              exact ⟨rfl, HM.out.base⟩
theorem off_walk (w : World) {A : Option Addr} {c : Nat} {l : Sec} {n : Int} (hn : -9223372036854775808 ≤ n ∧ n ≤ 9223372036854775807) (hl : l.length ≤ 1048576) (h0 : BytesIn w A l) :
    Calls Try.prog 7 #[.slice A l.length c, .int .i64 n] w fun e w' => e = .returned (.bool true) ∧ Below w.heap.size w w' := by
  rcases Int.lt_or_le n 0 with c0 | c0
  · exact off_neg w hn hl c0 h0
  · exact off_pos w hn hl c0 h0
end Go.Proofs.Ytpnijopbbbgffaa.plantw
