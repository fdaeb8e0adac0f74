/- Walks of layer 4's statements: the document's examples at the head of each. Conditions: none. -/
import Derived.Test.YtcgfbdleapjigaaFieldK
namespace Go.Proofs.Ytcgfbdleapjigaa.fieldw
open Go.RowKit Go.Proofs.Ytcgfbdleapjigaa.fieldp Go.Proofs.YtcgfbdleapjigaaW.PrintWords Go.Proofs.YtcgfbdleapjigaaW.PrintLast

section
variable {P : Program}
/-- What an append leaves of the row that it was handed. -/
theorem append_keeps (w : World) (base : Nat) (t ty e : TypeId) (i : TypeInfo) (z : Value) (size : Nat) (ht : P.underlying t = some (.slice e)) (hi : P.info? e = some i) (hz : i.zero = some z)
    (hsize : i.size = size) (hsz : 0 < size) (g n cap : Nat) (xs : List Value) (hown : w.ownsRow base e size (.slice (some ⟨g, 0, none⟩) n cap) n xs)
    (a : Addr) (m c : Nat) (news : List Value) (hl : news.length = m * size) (hnews : ∀ j u, news[j]? = some u → w.cell? (a.add j) = some u) (h1 : ∀ u ∈ news, u.oneCell' = true)
    (h63 : n + m ≤ maxLen) (hbytes : (n + m) * i.bytes ≤ 140737488355328) {v' : Value} {w' : World}
    (hr : (Builtin.append_ #[t, t] ty #[.slice (some ⟨g, 0, none⟩) n cap, .slice (some a) m c]).run P w = .ok v' w') : ∀ j u, xs[j]? = some u → w'.cell? ⟨g, j, none⟩ = some u := by
  subst hsize
  have hsmall : n + m ≤ 9223372036854775807 := by simp only [maxLen] at h63; omega
  have hadd : ∀ j, (⟨g, 0, none⟩ : Addr).add j = ⟨g, j, none⟩ := fun j => by unfold Addr.add; split <;> simp_all
  have hold := hown.cells (g := g) rfl
  rcases hown.2 with ⟨h, _⟩ | ⟨g', cap', cur, hv, hbg, hg, hnc, hcm, hcs, htake⟩
  · cases h
  · injection hv with h1' _ h3'
    injection h1' with h1'
    injection h1' with h1'
    subst h1' h3'
    by_cases hroom : n + m ≤ cap
    · have hfit : n * i.size + news.length ≤ cur.size := by rw [hl, hcs, ← Nat.add_mul]; exact Nat.mul_le_mul_right _ hroom
      have hr2 := run_append_room (P := P) w t ty e i ht hi g n cap cur hg a m c news hl hnews h1 hroom hfit
      rw [hr2] at hr
      injection hr with _ hw
      subst hw
      intro j u hj
      rw [htake]
      have hb := setRow_heap w g cur (xs ++ news ++ cur.toList.drop (n * i.size + news.length)).toArray e (0, 0) hg
      rw [cell_of_row _ g j _ e (0, 0) hb]
      have hjl : j < xs.length := (List.getElem?_eq_some_iff.1 hj).1
      simp only [List.getElem?_toArray, List.append_assoc]
      rw [List.getElem?_append_left hjl]
      exact hj
    · have hr2 := run_append_grow (P := P) w t ty e i z ht hi hz ⟨g, 0, none⟩ n cap xs hown.1 hold a m c news hl hnews (by omega) (by omega) (growslice_fits (by omega) hbytes)
      rw [hr2] at hr
      injection hr with _ hw
      subst hw
      intro j u hj
      have hc := hold j u hj
      rw [hadd] at hc
      have hlt := World.block_lt_of_cell? w _ hc
      exact (((Below.refl w.heap.size w).drew.alloc (Nat.le_refl _) _).cell hlt).trans hc
theorem wpList_append_eq {ops : Array Oper} {rest : List Oper} {o : Oper} {a : Act} {Q : Exit → Act → World → Prop} (W : World) (hgd : o.guard = none) (s x : Operand) (t : TypeId)
    (ho : o.op = .call { callee := .builtin .append, args := #[s, x], argTypes := #[t, t] }) {v y v' : Value} {w' : World} (hs : a.eval s = v) (hx : a.eval x = y)
    (hr : (Builtin.append_ #[t, t] o.type #[v, y]).run P W = .ok v' w') (h : wpList P ops Q rest (a.put o.dst v') w') : wpList P ops Q (o :: rest) a W :=
  wpList_plain hgd fun _ hK => by
    unfold Oper.wp execOp
    simp only [ho, resolve, invoke, builtin, Sem.run_bind, Sem.run_pure, Result.andThen_ok, List.map_toArray, List.map_cons, List.map_nil, hs, hx, hr]
    exact hK _ _ h
end

theorem two_at (w : World) (a b : Int) : Kd.C (Kd.int .u8) (w.alloc (.cells #[.int .u8 a, .int .u8 b] 5)) (some ⟨w.heap.size, 0, none⟩) 2 [a, b] := by
  refine ⟨rfl, by decide, fun _ => ⟨_, rfl, ?_⟩⟩
  intro j p hj
  have hc := fun i => blk_cell (blk_new w (.cells #[.int .u8 a, .int .u8 b] 5)) i
  match j, hj with
  | 0, hj =>
    have : p = a := by simpa using hj.symm
    subst this
    refine ⟨[.int .u8 p], rfl, rfl, ?_⟩
    intro i u hu
    match i, hu with
    | 0, hu => have : u = .int .u8 p := by simpa using hu.symm
               subst this; exact hc 0
    | i + 1, hu => simp at hu
  | 1, hj =>
    have : p = b := by simpa using hj.symm
    subst this
    refine ⟨[.int .u8 p], rfl, rfl, ?_⟩
    intro i u hu
    match i, hu with
    | 0, hu => have : u = .int .u8 p := by simpa using hu.symm
               subst this; exact hc 1
    | i + 1, hu => simp at hu
  | j + 2, hj => simp at hj
set_option maxHeartbeats 4000000 in
set_option maxRecDepth 100000 in
theorem shown_any (w : World) : Calls Try.prog 12 #[] w fun e w' => e = .returned (.bool true) ∧ Below w.heap.size w w' := by
  have h1 : putR [] 2 19 2 ⟨#[52, 53, 54, 55]⟩ = ([4, 69, 103], 0) := by decide
  have hP : ∀ w, Calls Try.prog 13 #[.slice none 0 0, .agg #[.int .i64 2, .int .i64 19, .int .i64 2], .string ⟨#[52, 53, 54, 55]⟩] w fun e w' => ∃ v0_ : Value, e = .returned (.tuple #[v0_, .int .i64 0]) ∧ Kd.R (Kd.int .u8) 5 w' w.heap.size (fun _ => True) v0_ [4, 69, 103] ∧ Below w.heap.size w w' := by
    intro w
    have := put_any 2 19 2 ⟨#[52, 53, 54, 55]⟩ none 0 [] w (by decide) (by decide) (Kd.C_nil _ _) (Nat.le_refl _)
    rw [h1] at this
    exact this
  have h2 : takeR [4, 69, 103, 9] 2 19 2 = (⟨#[52, 53, 54, 55]⟩, [9], 0) := by decide
  have hT : ∀ A c w, Kd.C (Kd.int .u8) w A 4 [4, 69, 103, 9] → 4 ≤ c → Calls Try.prog 17 #[.slice A 4 c, .agg #[.int .i64 2, .int .i64 19, .int .i64 2]] w fun e w' => ∃ v1_ : Value, e = .returned (.tuple #[.string ⟨#[52, 53, 54, 55]⟩, v1_, .int .i64 0]) ∧ Kd.V (Kd.int .u8) 5 w' w.heap.size (fun k_ => (w.heap.size ≤ k_)) v1_ [9] ∧ Below w.heap.size w w' := by
    intro A c w hC hc
    have := take_any 2 19 2 A c [4, 69, 103, 9] w hC
    rw [h2] at this
    exact this
  have h3 : (takeR [17, 35] 1 3 2).2.2 = 42 := by decide
  have hT2 : ∀ A c w, Kd.C (Kd.int .u8) w A 2 [17, 35] → Calls Try.prog 17 #[.slice A 2 c, .agg #[.int .i64 1, .int .i64 3, .int .i64 2]] w fun e w' => ∃ (s_ : ByteArray) (v1_ : Value), e = .returned (.tuple #[.string s_, v1_, .int .i64 42]) ∧ Below w.heap.size w w' := by
    intro A c w hC
    have := take_any 1 3 2 A c [17, 35] w hC
    rw [h3] at this
    exact this.mono fun e w' ⟨v, he, _, hb⟩ => ⟨_, v, he, hb⟩
  have hA : ∀ w, Calls Try.prog 19 #[.string ⟨#[48, 48, 48, 48, 48, 48, 48, 48, 48, 49, 48, 48]⟩] w fun e w' => e = .returned (.tuple #[.int .i64 100, .int .i64 0]) ∧ w = w' := by
    intro w
    have := amount_any ⟨#[48, 48, 48, 48, 48, 48, 48, 48, 48, 49, 48, 48]⟩ w (by decide)
    rw [show amountR (⟨#[48, 48, 48, 48, 48, 48, 48, 48, 48, 49, 48, 48]⟩ : ByteArray).data.toList = (100, 0) by decide] at this
    exact this
  have hD : ∀ w, Calls Try.prog 21 #[.int .i64 5, .int .i64 3] w fun e w' => e = .returned (.tuple #[.string ⟨#[48, 48, 53]⟩, .int .i64 0]) ∧ Below w.heap.size w w' := by
    intro w
    have := digits_any 5 3 w (by decide)
    rw [show digitsR 5 3 = (⟨#[48, 48, 53]⟩, 0) by decide] at this
    exact this
  have hW1 : ∀ w, Calls Try.prog 23 #[.string ⟨#[48, 50, 50, 57, 50, 51, 53, 57, 53, 57]⟩] w fun e w' => e = .returned (.bool true) ∧ Below w.heap.size w w' := by
    intro w
    have := when_any ⟨#[48, 50, 50, 57, 50, 51, 53, 57, 53, 57]⟩ w (by decide)
    rw [show whenR (⟨#[48, 50, 50, 57, 50, 51, 53, 57, 53, 57]⟩ : ByteArray).data.toList = true by decide] at this
    exact this
  have hW2 : ∀ w, Calls Try.prog 23 #[.string ⟨#[48, 50, 51, 48, 48, 48, 48, 48, 48, 48]⟩] w fun e w' => e = .returned (.bool false) ∧ Below w.heap.size w w' := by
    intro w
    have := when_any ⟨#[48, 50, 51, 48, 48, 48, 48, 48, 48, 48]⟩ w (by decide)
    rw [show whenR (⟨#[48, 50, 51, 48, 48, 48, 48, 48, 48, 48]⟩ : ByteArray).data.toList = false by decide] at this
    exact this
  have HP := Lib.hid hP
  have HT := Lib.hid hT
  have HT2 := Lib.hid hT2
  have HA := Lib.hid hA
  have HD := Lib.hid hD
  have HW1 := Lib.hid hW1
  have HW2 := Lib.hid hW2
  clear h1 hP h2 hT h3 hT2 hA hD hW1 hW2
  go_enter Try.func12, Try.ntmps12
  go_wp2_with fail
  refine (HP.out _).mono ?_
  rintro e w1 ⟨v, rfl, ho, hb1⟩
  have hown := Kd.own_of_R ho
  obtain ⟨g, cap, rfl, hg0, hcap⟩ : ∃ g cap, v = .slice (some ⟨g, 0, none⟩) 3 cap ∧ w.heap.size ≤ g ∧ 3 ≤ cap := by
    rcases hown.2 with ⟨_, h⟩ | ⟨g, cap, cur, h, h2, _, h4, _⟩
    · cases h
    · exact ⟨g, cap, h, h2, h4⟩
  obtain ⟨i0, hi, hzz⟩ := Option.map_eq_some_iff.1 infoU8
  simp only [Prod.mk.injEq] at hzz
  obtain ⟨hz0, hz1, hz2⟩ := hzz
  have hgw : g < w1.heap.size := (hown.lt g rfl).2
  obtain ⟨v2, w2, hr, hown2, hgr, -⟩ := run_append_own (P := Try.prog) (w1.alloc (.cells #[.int .u8 9] 5)) w.heap.size 22 22 5 i0 (.int .u8 0) 1 1 Try.underlying22 hi hz0 hz1 hz2 rfl (by decide) _ 3 _ (hown.alloc _) ⟨w1.heap.size, 0, none⟩ 1 1 [.int .u8 9] rfl
    (by simpa using World.news_of_block (cs := #[Value.int .u8 9]) (t := 5) (fr := (0, 0)) (heap_alloc_new w1 _)) (by simp [Value.oneCell']) (by decide) (by decide) (by simp; omega)
  have hkp := append_keeps (P := Try.prog) (w1.alloc (.cells #[.int .u8 9] 5)) w.heap.size 22 22 5 i0 (.int .u8 0) 1 Try.underlying22 hi hz0 hz1 (by decide) g 3 cap _ (hown.alloc _) ⟨w1.heap.size, 0, none⟩ 1 1 [.int .u8 9] rfl
    (by simpa using World.news_of_block (cs := #[Value.int .u8 9]) (t := 5) (fr := (0, 0)) (heap_alloc_new w1 _)) (by simp [Value.oneCell']) (by decide) (by rw [hz2]; decide) hr
  have hkp2 : ∀ j (hj : j < 3), w2.cell? ⟨g, j, none⟩ = some (.int .u8 ((([4, 69, 103] : List UInt8)[j]'hj).toNat : Int)) := by
    intro j hj
    match j, hj with
    | 0, _ => exact hkp 0 _ rfl
    | 1, _ => exact hkp 1 _ rfl
    | 2, _ => exact hkp 2 _ rfl
  have hg2 : g < w2.heap.size := World.block_lt_of_cell? w2 _ (hkp2 0 (by decide))
  have HB2 := Aside0.mk ((hb1.alloc hb1.size _).grown hgr (by have := hb1.size; simp; omega) (own_base hown))
  obtain ⟨g2, c2, rfl, hc2⟩ : ∃ g2 c2, v2 = .slice (some ⟨g2, 0, none⟩) 4 c2 ∧ 4 ≤ c2 := by
    rcases hown2.2 with ⟨_, h⟩ | ⟨g, cap, cur, h, _, _, h4, _⟩
    · cases h
    · exact ⟨g, cap, h, h4⟩
  have hC2 : Kd.C (Kd.int .u8) w2 (some ⟨g2, 0, none⟩) 4 [4, 69, 103, 9] := (Kd.R_reads' (Kd.R_of_own (h1 := fun _ => rfl) (xs := ([4, 69, 103, 9] : List Int)) (ok := fun _ => True) hown2 (fun _ _ => trivial))).2.2
  have HC2 := Aside0.mk hC2
  have HK2 := Aside0.mk hkp2
  clear hown hown2 ho hi hz0 hz1 hz2 hgr hkp hb1 hC2 hkp2
  have HAR := Aside0.mk hr
  clear hr
  go_wp2_with (at_builtin; refine wpList_append_eq _ rfl (.tmp 19) (.tmp 20) 22 rfl rfl rfl HAR.out ?_)
  refine (HT.out _ _ _ HC2.out hc2).mono ?_
  rintro e w3 ⟨v3, rfl, hV3, hb3⟩
  obtain ⟨A3, c3, rfl⟩ := Kd.V_slice hV3
  have HB3 := Aside0.mk (HB2.out.trans (hb3.mono HB2.out.size))
  have HK3 := Aside0.mk (show ∀ j (hj : j < 3), w3.cell? ⟨g, j, none⟩ = some (.int .u8 ((([4, 69, 103] : List UInt8)[j]'hj).toNat : Int)) from fun j hj => (hb3.cell (p := ⟨g, j, none⟩) hg2).trans (HK2.out j hj))
  have hg3 : g < w3.heap.size := Nat.lt_of_lt_of_le hg2 hb3.size
  clear hb3 hV3
  go_wp2_with fail
  refine (HT2.out _ _ _ (two_at w3 17 35)).mono ?_
  rintro e w4 ⟨s4, v4, rfl, hb4⟩
  have hb4' := ((Below.refl w3.heap.size w3).alloc (Nat.le_refl _) _).trans (hb4.mono (by simp))
  have HB4 := Aside0.mk (HB3.out.trans (hb4'.mono HB3.out.size))
  have HK4 := Aside0.mk (show ∀ j (hj : j < 3), w4.cell? ⟨g, j, none⟩ = some (.int .u8 ((([4, 69, 103] : List UInt8)[j]'hj).toNat : Int)) from fun j hj => (hb4'.cell (p := ⟨g, j, none⟩) hg3).trans (HK3.out j hj))
  have hg4 : g < w4.heap.size := Nat.lt_of_lt_of_le hg3 hb4'.size
  clear hb4 hb4'
  go_wp2_with fail
  refine (HA.out _).mono ?_
  rintro e w5 ⟨rfl, rfl⟩
  go_wp2_with fail
  refine (HD.out _).mono ?_
  rintro e w6 ⟨rfl, hb6⟩
  have HB6 := Aside0.mk (HB4.out.trans (hb6.mono HB4.out.size))
  have hcv : (convert 22 9 (.slice (some ⟨g, 0, none⟩) 3 cap)).run Try.prog w6 = .ok (.string ⟨#[4, 69, 103]⟩) w6 :=
    run_convert_bytes_back w6 _ _ 5 ⟨g, 0, none⟩ cap [4, 69, 103] Try.underlying22 Try.underlying5 Try.underlying9 (fun j hj => by
      rw [show (⟨g, 0, none⟩ : Addr).add j = ⟨g, j, none⟩ from by unfold Addr.add; split <;> simp_all]
      exact (hb6.cell (p := ⟨g, j, none⟩) hg4).trans (HK4.out j hj))
  clear hb6
  go_wp2_with fail
  refine (HW1.out _).mono ?_
  rintro e w7 ⟨rfl, hb7⟩
  have HB7 := Aside0.mk (HB6.out.trans (hb7.mono HB6.out.size))
  clear hb7 hcv
  go_wp2_with fail
  refine (HW2.out _).mono ?_
  rintro e w8 ⟨rfl, hb8⟩
  have HB8 := Aside0.mk (HB7.out.trans (hb8.mono HB7.out.size))
  clear hb8
  go_wp2_with fail
  go_ret
  exact ⟨rfl, HB8.out⟩
end Go.Proofs.Ytcgfbdleapjigaa.fieldw
