/- Layer 11: Drop, Add. Conditions: as each theorem says. -/
import Derived.Test.YthfncbnokjikfaaDoorRtC
namespace Go.Proofs.YthfncbnokjikfaaDoor.routew
open Go.RowKit
open Go.Proofs.YthfncbnokjikfaaDoor.routep
open Go.Proofs.YthfncbnokjikfaaDoor.mapfn
open Go.Proofs.YthfncbnokjikfaaDoor.buf
theorem turn_of_map {w w' : World} {b : Nat} (h : w.mapTurned w' b) : Turn [b] w w' := (Turn.refl [b] w).grown h.grown (fun k hk => by injection hk with hk; exact .inl (by simp [hk]))
theorem TabAt.ne {w : World} {g b : Nat} {mem : Int} {l : Tab} (h : TabAt w g b mem l) : g ≠ b := fun e => by
  obtain ⟨h1, f, h2, _⟩ := h
  have := MapFn.nocell h2 0
  rw [← e, cells_at h1] at this
  cases this
theorem Holds.turned {w w' : World} {b : Nat} {l : Tab} {f : Lit → Option Hd} (h : Holds w l f) (t : Turn [b] w w') (hb : ∀ o, w.cell? ⟨b, o, none⟩ = none) : Holds w' l f := fun k =>
  ⟨(h k).1, fun to hto => by
    obtain ⟨x, hx, hi⟩ := (h k).2 to hto
    exact ⟨x, hx, hi.turned t hb⟩⟩
theorem size_key (k : Key) : (ByteArray.mk k.toArray).data.toList = k := by simp
/-- Behind a drop. -/
theorem TabAt.dropped {w : World} {g b : Nat} {mem : Int} {l : Tab} (h : TabAt w g b mem l) (hn : (l.map (·.1)).Nodup) (s : ByteArray) (hs : s.size ≤ maxLen) (hk : (routep.get l s.data.toList).isSome = true) (ty : TypeId) :
    ∃ w', (Builtin.delete_ #[55, 9] ty #[.map (some b), .string s]).run Tryd.prog w = .ok (.tuple #[]) w' ∧ TabAt w' g b mem (drop l s.data.toList) ∧ Turn [b] w w' := by
  have hgb := h.ne
  obtain ⟨h1, f, h2, h3⟩ := h
  obtain ⟨w', hr, hM, htn⟩ := h2.drop (t := 55) keyed_string Tryd.underlying55 (key_string s hs) ty
  have ht := turn_of_map htn
  have hH := h3.turned ht (MapFn.nocell h2)
  have hfk : (f (.string s.data.toList)).isSome = true := by
    cases hg : routep.get l s.data.toList with
    | none => rw [hg] at hk; cases hk
    | some to =>
      obtain ⟨x, hx, _⟩ := (h3 _).2 to hg
      rw [hx]; rfl
  rw [if_pos hfk] at hM
  have hlen : (drop l s.data.toList).length = l.length - 1 := by
    clear hH h3 h2 hM hr
    unfold drop
    induction l with
    | nil => simp [routep.get] at hk
    | cons p l ih =>
      rw [List.map_cons, List.nodup_cons] at hn
      by_cases e : p.1 = s.data.toList
      · rw [List.filter_cons_of_neg (by simp [e])]
        have : l.filter (fun q => q.1 != s.data.toList) = l := List.filter_eq_self.2 fun q hq => by
          have : q.1 ≠ s.data.toList := fun e2 => hn.1 (by rw [e, ← e2]; exact List.mem_map.2 ⟨q, hq, rfl⟩)
          simpa using this
        rw [this]
        simp
      · rw [List.filter_cons_of_pos (by simpa using e)]
        have hk' : (routep.get l s.data.toList).isSome = true := by
          unfold routep.get at hk ⊢
          rwa [List.find?_cons_of_neg (by simpa using e)] at hk
        have := ih hn.2 hk'
        have hpos : 0 < l.length := by
          cases l with
          | nil => simp [routep.get] at hk'
          | cons _ _ => simp
        simp only [List.length_cons]
        omega
  rw [← hlen] at hM
  refine ⟨w', hr, ⟨(ht.block g (Array.getElem?_eq_some_iff.1 h1).1 (by simpa using hgb)).trans h1, _, hM, fun k => ?_⟩, ht⟩
  rw [get_drop]
  by_cases e : k = s.data.toList
  · subst e
    rw [if_pos rfl]
    exact ⟨fun _ => upd_same _ _ _, fun to h => by cases h⟩
  · rw [if_neg e, upd_other (by simpa using e)]
    exact hH k
/-- Behind a store. -/
theorem TabAt.added {w : World} {g b : Nat} {mem : Int} {l : Tab} (h : TabAt w g b mem l) (s : ByteArray) (hs : s.size ≤ maxLen) (hk : routep.get l s.data.toList = none) (hl : l.length < 32) {x : Hd} {to : List Int} (hi : IntsAt w x.v to) :
    ∃ w', (Instr.mapUpdate 55 (.map (some b)) (.string s) x.v).run Tryd.prog w = .ok () w' ∧ TabAt w' g b mem (add l s.data.toList to) ∧ Turn [b] w w' := by
  have hgb := h.ne
  obtain ⟨h1, f, h2, h3⟩ := h
  obtain ⟨w', hr, hM, htn⟩ := h2.store (t := 55) keyed_string Tryd.underlying55 (by simp only [maxLen]; omega) (by trivial) (key_string s hs) x
  have ht := turn_of_map htn
  have hH := h3.turned ht (MapFn.nocell h2)
  have hi' := hi.turned ht (MapFn.nocell h2)
  rw [(h3 _).1 hk] at hM
  have hlen : (add l s.data.toList to).length = l.length + 1 := by simp [add]
  simp only [Option.isSome_none, Bool.false_eq_true, if_false] at hM
  rw [← hlen] at hM
  refine ⟨w', hr, ⟨(ht.block g (Array.getElem?_eq_some_iff.1 h1).1 (by simpa using hgb)).trans h1, _, hM, fun k => ?_⟩, ht⟩
  rw [get_add _ _ _ _ hk]
  by_cases e : k = s.data.toList
  · subst e
    rw [if_pos rfl]
    refine ⟨fun h => (by cases h), fun to' h => ?_⟩
    injection h with h
    subst h
    exact ⟨x, upd_same _ _ _, hi'⟩
  · rw [if_neg e, upd_other (by simpa using e)]
    exact hH k
theorem exec_delete_by {P : Program} {w w' : World} {o : Oper} {a : Act} (s x : Operand) (t k : TypeId) (ho : o.op = .call { callee := .builtin .delete, args := #[s, x], argTypes := #[t, k] }) (V X r : Value) (hs : a.eval s = V) (hx : a.eval x = X) (hr : (Builtin.delete_ #[t, k] o.type #[V, X]).run P w = .ok r w') : (execOp a.eval o).run P w = .ok (.value r) w' := by
  unfold execOp
  simp only [ho, resolve, invoke, builtin, Sem.run_bind, Sem.run_pure, Result.andThen_ok, List.map_toArray, List.map_cons, List.map_nil, hs, hx, hr]
set_option maxRecDepth 100000 in
theorem drop_any {w : World} {g b : Nat} {mem : Int} {l : Tab} (h : TabAt w g b mem l) (hn : (l.map (·.1)).Nodup) (s : ByteArray) (hs : s.size ≤ maxLen) :
    Calls Tryd.prog 12 #[.pointer (some ⟨g, 0, none⟩), .string s] w fun e w' =>
      e = .returned (.int .i64 (if (routep.get l s.data.toList).isSome then 0 else 113)) ∧ TabAt w' g b mem (drop l s.data.toList) ∧ Turn [b] w w' := by
  have c1 : w.cell? ⟨g, 1, none⟩ = some (.map (some b)) := cells_at h.blk 1
  obtain ⟨x, hx, hi⟩ := look_tab h s hs
  have HX := Lib.hid (hx w rfl)
  have HI := Lib.hid hi
  have H := Lib.hid h
  have HN := Lib.hid hn
  clear h hn hx hi
  cases hg : routep.get l s.data.toList with
  | none =>
    rw [hg] at HX
    have HG := Lib.hid hg
    clear hg
    go_enter Tryd.func12, Tryd.ntmps12
    go_wp2_with (refine wpList_run rfl _ (exec_lookup 55 (.tmp 11) (.tmp 12) true rfl (.map (some b)) (.string s) (.tuple #[x.v, .bool false]) rfl rfl HX.out) ?_)
    go_ret
    refine ⟨rfl, ?_, Turn.refl _ _⟩
    have : drop l s.data.toList = l := List.filter_eq_self.2 fun p hp => by
      have := get_none.1 HG.out
      have : p.1 ≠ s.data.toList := fun e => this (List.mem_map.2 ⟨p, hp, e⟩)
      simpa using this
    rw [this]
    exact H.out
  | some to =>
    rw [hg] at HX
    obtain ⟨w', hr, hT, ht⟩ := H.out.dropped HN.out s hs (by rw [hg]; rfl) 0
    have HR := Lib.hid hr
    have HT := Lib.hid (And.intro hT ht)
    clear hg hr hT ht
    go_enter Tryd.func12, Tryd.ntmps12
    go_wp2_with (first | refine wpList_run rfl _ (exec_lookup 55 (.tmp 11) (.tmp 12) true rfl (.map (some b)) (.string s) (.tuple #[x.v, .bool true]) rfl rfl HX.out) ?_ | refine wpList_run rfl _ (exec_delete_by (.tmp 21) (.tmp 22) 55 9 rfl (.map (some b)) (.string s) (.tuple #[]) rfl rfl HR.out) ?_)
    go_ret
    exact ⟨rfl, HT.out.1, HT.out.2⟩
end Go.Proofs.YthfncbnokjikfaaDoor.routew
