/- Layer 11: Find, Drop. Conditions: as each theorem says. -/
import Derived.Test.YthfncbnokjikfaaDoorRtB
namespace Go.Proofs.YthfncbnokjikfaaDoor.routew
open Go.RowKit
open Go.Proofs.YthfncbnokjikfaaDoor.routep
open Go.Proofs.YthfncbnokjikfaaDoor.mapfn
open Go.Proofs.YthfncbnokjikfaaDoor.buf
/-- The rows that a table may have. -/
def Rows (l : Tab) : Prop := ∀ p ∈ l, p.2 ≠ [] ∧ p.2.length ≤ 1048576
theorem get_rows {l : Tab} (h : Rows l) {k : Key} {to : List Int} (hg : routep.get l k = some to) : to ≠ [] ∧ to.length ≤ 1048576 := by
  unfold routep.get at hg
  cases hf : l.find? (fun p => p.1 == k) with
  | none => rw [hf] at hg; cases hg
  | some p =>
    rw [hf] at hg
    injection hg with hg
    have := h p (List.mem_of_find?_eq_some hf)
    have hg' : p.2 = to := hg
    rwa [hg'] at this
theorem FreshInts.from {w w1 w2 : World} {v : Value} {zs : List Int} (h : FreshInts w1 v zs w2) (hb : Below w.heap.size w w1) : FreshInts w v zs w2 := by
  obtain ⟨hb2, g, c, cur, h1, h2, h3⟩ := h
  have := hb.size
  exact ⟨hb.trans (hb2.mono this), g, c, cur, h1, by omega, h3⟩
/-- A look-up, in any world where the map's block is as it was. -/
theorem look_tab {w : World} {g b : Nat} {mem : Int} {l : Tab} (h : TabAt w g b mem l) (s : ByteArray) (hs : s.size ≤ maxLen) :
    ∃ x : Hd, (∀ W : World, W.heap[b]? = w.heap[b]? → (Instr.lookup 55 (.map (some b)) (.string s) true).run Tryd.prog W = .ok (.tuple #[x.v, .bool (routep.get l s.data.toList).isSome]) W) ∧ ∀ to, routep.get l s.data.toList = some to → IntsAt w x.v to := by
  obtain ⟨h1, f, h2, h3⟩ := h
  have H : ∀ W : World, W.heap[b]? = w.heap[b]? → _ := fun W hW => (h2.block hW).look_ok (t := 55) keyed_string Tryd.underlying55 (zero_ints W) (key_string s hs)
  cases hg : routep.get l s.data.toList with
  | none =>
    rw [(h3 _).1 hg] at H
    exact ⟨⟨none, 0, 0⟩, H, fun to h => by cases h⟩
  | some to =>
    obtain ⟨x, hx, hi⟩ := (h3 _).2 to hg
    rw [hx] at H
    exact ⟨x, H, fun to' h => by injection h with h; rw [← h]; exact hi⟩
/-- A look-up in a region that only reads. -/
theorem quiet_lookup {P : Program} {ops : Array Oper} {C : World → Prop} {Q : Act → Prop} {rest : List Oper} {o : Oper} {a : Act} (hgd : o.guard = none) (t : TypeId) (m k : Operand) (c : Bool) (ho : o.op = .lookup t m k c) (M V X : Value) (hm : a.eval m = M) (hk : a.eval k = V)
    (hr : ∀ w, C w → (Instr.lookup t M V c).run P w = .ok X w) (h : wpQuiet P ops C Q rest (a.put o.dst X)) : wpQuiet P ops C Q (o :: rest) a :=
  Go.BigFrame.wpQuiet_want (by simp [Region.wanted, hgd]) fun K hK => ⟨X, fun w hw => by
    unfold Oper.quietAt
    rw [exec_lookup t m k c ho M V X hm hk (hr w hw)]
    exact ⟨rfl, rfl⟩, hK _ h⟩
theorem extract_key (s : ByteArray) (n : Nat) : (s.extract 0 n).data.toList = s.data.toList.take n := by simp [ByteArray.data_extract]
theorem findN_pos (g : Key → Option (List Int)) (pan : Key) (n : Nat) (h : 0 < n) : findN g pan n = match g (pan.take n) with
    | some t => some t
    | none => findN g pan (n - 1) := by
  obtain ⟨m, rfl⟩ : ∃ m, n = m + 1 := ⟨n - 1, by omega⟩
  rfl
theorem find_any {w : World} {g b : Nat} {mem : Int} {l : Tab} (h : TabAt w g b mem l) (hr : Rows l) (s : ByteArray) (hs : s.size ≤ maxLen) :
    Calls Tryd.prog 9 #[.pointer (some ⟨g, 0, none⟩), .string s] w fun e w' =>
      (find l s.data.toList = none ∧ e = .returned (.tuple #[.slice none 0 0, .bool false]) ∧ Below w.heap.size w w') ∨
      ∃ to v, find l s.data.toList = some to ∧ e = .returned (.tuple #[v, .bool true]) ∧ FreshInts w v to w' := by
  have H := Lib.hid h
  have HR := Lib.hid hr
  have hsz : s.data.toList.length = s.size := (Lib.size_eq s).symm
  have HSZ := Lib.hid hsz
  have HS := Lib.hid hs
  obtain ⟨m, hm⟩ : ∃ m : Nat, m = min 8 s.size := ⟨_, rfl⟩
  have hmi : (min (8 : Int) s.size) = m := by omega
  have hmi' : (if (8 : Int) ≤ s.size then (8 : Int) else s.size) = m := by split <;> omega
  have hmi'' : (if (s.size : Int) < 8 then (s.size : Int) else 8) = m := by split <;> omega
  have HF := Lib.hid (show find l s.data.toList = findN (routep.get l) s.data.toList m by unfold find; rw [hsz, hm])
  have HM := Lib.hid hm
  clear h hr hsz hs hm
  go_enter Tryd.func9, Tryd.ntmps9
  go_wp2_with fail
  go_loopw [6] (fun i wr => Below w.heap.size w wr ∧ ∃ n : Nat, n ≤ m ∧ i = .int .i64 n ∧ find l s.data.toList = findN (routep.get l) s.data.toList n) (fun i _ => (intOf i).toNat)
  case atStart => exact ⟨Below.refl _ _, m, Nat.le_refl _, rfl, HF.out⟩
  case round =>
    obtain ⟨hbw, n, hn, rfl, he⟩ := hrel
    by_cases hn0 : n = 0
    · subst hn0
      have HE := Lib.hid he
      have BW := Lib.hid hbw
      clear he hbw
      go_wp2_with fail
      go_ret2
      exact .inl ⟨HE.out, rfl, BW.out⟩
    · have hns : n ≤ s.size := by have := HM.out; omega
      have hns' : (n : Int) ≤ s.size := by omega
      have hpos : (0 : Int) < n := by omega
      have hpos' : 0 < n := by omega
      have HT := Lib.hid (H.out.below hbw)
      have c1 : wr.cell? ⟨g, 1, none⟩ = some (.map (some b)) := cells_at HT.out.blk 1
      have hxs : (s.extract 0 n).size ≤ maxLen := by have := HS.out; rw [ByteArray.size_extract]; omega
      have hlk := look_tab HT.out (s.extract 0 n) hxs
      rw [extract_key] at hlk
      obtain ⟨x, hx, hi⟩ := hlk
      have HX := Lib.hid hx
      have HI := Lib.hid hi
      have he' := he
      rw [findN_pos _ _ _ hpos'] at he'
      have HE := Lib.hid he'
      have BW := Lib.hid hbw
      clear hx hi he hbw hxs he'
      cases hg : routep.get l (s.data.toList.take n) with
      | none =>
        rw [hg] at HX
        have HE2 := Lib.hid (show find l s.data.toList = findN (routep.get l) s.data.toList (n - 1) by rw [HE.out, hg])
        clear hg
        go_wp2_with fail
        refine wp_region_quiet_lit (by kernel_rfl) (by kernel_rfl) ?_
        repeat (go_big_quiet_step (fail))
        refine quiet_lookup rfl 55 (.tmp 20) (.tmp 23) true rfl (.map (some b)) (.string (s.extract 0 n)) (.tuple #[x.v, .bool false]) rfl rfl (by rintro w' ⟨n', rfl⟩; exact HX.out _ rfl) ?_
        simp only [Act.put, List.setIfInBounds_toArray, List.set_cons_zero, List.set_cons_succ]
        repeat (go_big_quiet_step (fail))
        refine wpQuiet_nil ?_
        rintro _ ⟨nq, rfl⟩
        go_wp2_with fail
        go_roundw
        case rel => exact ⟨BW.out.trans (drewN_base _ _), n - 1, by omega, by rw [show ((n - 1 : Nat) : Int) = n - 1 by omega], HE2.out⟩
        case measure => simp [intOf]; omega
      | some to =>
        rw [hg] at HX
        have HE2 := Lib.hid (show find l s.data.toList = some to by rw [HE.out, hg])
        have HI2 := Lib.hid (HI.out to hg)
        have HQ := Lib.hid (get_rows HR.out hg)
        clear hg
        go_wp2_with fail
        refine wp_region_quiet_lit (by kernel_rfl) (by kernel_rfl) ?_
        repeat (go_big_quiet_step (fail))
        refine quiet_lookup rfl 55 (.tmp 20) (.tmp 23) true rfl (.map (some b)) (.string (s.extract 0 n)) (.tuple #[x.v, .bool true]) rfl rfl (by rintro w' ⟨n', rfl⟩; exact HX.out _ rfl) ?_
        simp only [Act.put, List.setIfInBounds_toArray, List.set_cons_zero, List.set_cons_succ]
        repeat (go_big_quiet_step (fail))
        refine wpQuiet_nil ?_
        rintro _ ⟨nq, rfl⟩
        go_wp2_with fail
        refine (clone_any (HI2.out.below (drewN_base _ _)) HQ.out.1 (by have := HQ.out.2; omega)).mono ?_
        rintro e w2 ⟨v', rfl, hf⟩
        go_wp2_with fail
        go_ret2
        exact .inr ⟨to, v', HE2.out, rfl, hf.from (BW.out.trans (drewN_base _ _))⟩
end Go.Proofs.YthfncbnokjikfaaDoor.routew
