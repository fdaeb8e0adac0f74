/- A map of the program's own as a function of its keys, whatever its elements. Conditions: as each theorem says. -/
import Derived.Maps.OwnSet
import Derived.Maps.Views
import Derived.Maps.OwnOps
namespace Go.Proofs.YthfncbnokjikfaaDoor.mapfn
open Go.Maps

/-- How a map's elements stand as values. (dat: a datum that tells them apart; it is never seen.) -/
structure El (α : Type) where
  enc : α → Value
  dat : α → DataW Unit
  enc_inj : ∀ x y, enc x = enc y → x = y
  dat_inj : ∀ x y, dat x = dat y → x = y
variable {α : Type}
open Classical in
noncomputable def El.R (E : El α) (v : Value) : Option (DataW Unit × List MemPlace) := if h : ∃ x, v = E.enc x then some (E.dat (Classical.choose h), []) else none
theorem El.R_enc (E : El α) (x : α) : E.R (E.enc x) = some (E.dat x, []) := by
  have h : ∃ y, E.enc x = E.enc y := ⟨x, rfl⟩
  have hc : Classical.choose h = x := (E.enc_inj _ _ (Classical.choose_spec h)).symm
  unfold El.R
  rw [dif_pos h, hc]
theorem El.R_inv (E : El α) {v : Value} {x : α} {ps : List MemPlace} (h : E.R v = some (E.dat x, ps)) : v = E.enc x := by
  unfold El.R at h
  split at h
  · rename_i hx
    simp only [Option.some.injEq, Prod.mk.injEq] at h
    rw [← E.dat_inj _ _ h.1]
    exact Classical.choose_spec hx
  · cases h
/-- Block b is a map of s entries; at each key it holds what f says. -/
def MapFn (E : El α) (P : Program) (K : TypeId) (w : World) (b s : Nat) (f : Lit → Option α) : Prop :=
  ∃ D : DataW Unit, w.ownsMap P K E.R b s D ∧ Maps.size D = s ∧ (∀ k, Maps.has D k = (f k).isSome) ∧ ∀ k x, f k = some x → ∀ z, D.atKey k z = E.dat x
variable {E : El α} {P : Program} {K e t : TypeId} {w : World} {b s : Nat} {f : Lit → Option α}
theorem MapFn.made (E : El α) (P : Program) (K : TypeId) (w : World) : MapFn E P K (w.alloc (.map #[] 0)) w.heap.size 0 (fun _ => none) :=
  ⟨.map [], World.ownsMap_made w P K E.R, rfl, fun _ => rfl, fun _ _ h => by cases h⟩
theorem MapFn.kept {w' : World} {row : Option Nat} (h : MapFn E P K w b s f) (hg : w.grownBy w' row) (hne : some b ≠ row) : MapFn E P K w' b s f := by
  obtain ⟨D, h1, h2⟩ := h
  exact ⟨D, h1.kept hg hne, h2⟩
theorem MapFn.lt (h : MapFn E P K w b s f) : b < w.heap.size := by
  obtain ⟨D, h1, _⟩ := h
  exact h1.lt
theorem MapFn.block {w' : World} (h : MapFn E P K w b s f) (hb : w'.heap[b]? = w.heap[b]?) : MapFn E P K w' b s f := by
  obtain ⟨D, ⟨es, cl, h1, h2⟩, h3⟩ := h
  exact ⟨D, ⟨es, cl, hb.trans h1, h2⟩, h3⟩
/-- A copy of the block is a map as it. -/
theorem MapFn.copy {b' : Nat} {w' : World} (h : MapFn E P K w b s f) (hb : w'.heap[b']? = w.heap[b]?) : MapFn E P K w' b' s f := by
  obtain ⟨D, ⟨es, cl, h1, h2⟩, h3⟩ := h
  exact ⟨D, ⟨es, cl, hb.trans h1, h2⟩, h3⟩
theorem MapFn.look (h : MapFn E P K w b s f) (KL : Keyed P K) (ht : P.underlying t = some (.map K e)) {z0 : α} (hz : (zeroValue e).run P w = .ok (E.enc z0) w) {key : Value} {kl : Lit} (hkey : keyOf P K key = some kl) :
    (Instr.lookup t (.map (some b)) key false).run P w = .ok (E.enc ((f kl).getD z0)) w := by
  obtain ⟨D, h1, _, h3, h4⟩ := h
  obtain ⟨v, ps, hrun, hv⟩ := h1.lookup KL ht hz (E.R_enc z0) hkey
  rw [hrun]
  cases hf : f kl with
  | some x =>
    rw [h4 kl x hf] at hv
    rw [E.R_inv hv]
    rfl
  | none =>
    rw [atKey_of_not_has (by rw [h3 kl, hf]; rfl)] at hv
    rw [E.R_inv hv]
    rfl
theorem MapFn.look_ok (h : MapFn E P K w b s f) (KL : Keyed P K) (ht : P.underlying t = some (.map K e)) {z0 : α} (hz : (zeroValue e).run P w = .ok (E.enc z0) w) {key : Value} {kl : Lit} (hkey : keyOf P K key = some kl) :
    (Instr.lookup t (.map (some b)) key true).run P w = .ok (.tuple #[E.enc ((f kl).getD z0), .bool (f kl).isSome]) w := by
  obtain ⟨D, h1, _, h3, h4⟩ := h
  obtain ⟨v, ps, hrun, hv⟩ := h1.look_ok KL ht hz (E.R_enc z0) hkey
  rw [hrun, h3 kl]
  cases hf : f kl with
  | some x =>
    rw [h4 kl x hf] at hv
    rw [E.R_inv hv]
    rfl
  | none =>
    rw [atKey_of_not_has (by rw [h3 kl, hf]; rfl)] at hv
    rw [E.R_inv hv]
    rfl
theorem MapFn.len (h : MapFn E P K w b s f) (ht : P.underlying t = some (.map K e)) (ty : TypeId) : (Builtin.len_ #[t] ty #[.map (some b)]).run P w = .ok (.int .i64 s) w := by
  obtain ⟨D, h1, h2, _⟩ := h
  rw [h1.len ht ty, h2]
open Classical in
/-- A function turned at one key. -/
noncomputable def upd (f : Lit → Option α) (kl : Lit) (y : Option α) (k : Lit) : Option α := if k = kl then y else f k
theorem upd_same (f : Lit → Option α) (kl : Lit) (y : Option α) : upd f kl y kl = y := if_pos rfl
theorem upd_other {f : Lit → Option α} {kl k : Lit} {y : Option α} (h : k ≠ kl) : upd f kl y k = f k := if_neg h
theorem ownsMap_tight {R : Value → Option (DataW Unit × List MemPlace)} {n : Nat} {D : DataW Unit} (h : w.ownsMap P K R b n D) : w.ownsMap P K R b (Maps.size D) D := by
  obtain ⟨es, cl, h1, h2, h3, rfl⟩ := h
  refine ⟨es, cl, h1, h2, ?_, rfl⟩
  rw [Maps.size_eq, length_sorted]
  simp
theorem MapFn.store (h : MapFn E P K w b s f) (KL : Keyed P K) (ht : P.underlying t = some (.map K e)) (hs : s < maxLen) {key : Value} {kl : Lit} (hkl : WideAt.IsKeyLit kl) (hkey : keyOf P K key = some kl) (x : α) :
    ∃ w', (Instr.mapUpdate t (.map (some b)) key (E.enc x)).run P w = .ok () w' ∧ MapFn E P K w' b (if (f kl).isSome then s else s + 1) (upd f kl (some x)) ∧ w.mapTurned w' b := by
  obtain ⟨D, h1, h2, h3, h4⟩ := h
  obtain ⟨w', hrun, ho, htn⟩ := h1.store KL ht hs hkey (E.R_enc x)
  have htd := h1.tidy KL
  have hsz : Maps.size (D.put kl (E.dat x)) = if (f kl).isSome then s else s + 1 := by rw [size_put htd, h3 kl, h2]
  have ho' := ownsMap_tight ho
  rw [hsz] at ho'
  refine ⟨w', hrun, ⟨_, ho', hsz, fun k => ?_, fun k y hk z => ?_⟩, htn⟩
  · by_cases hkk : k = kl
    · subst hkk
      rw [has_put_same htd.isMap hkl, upd_same]
      rfl
    · rw [has_put_other hkk, upd_other hkk, h3 k]
  · by_cases hkk : k = kl
    · subst hkk
      rw [upd_same] at hk
      injection hk with hk
      subst hk
      exact atKey_put_same htd.isMap hkl _ _
    · rw [upd_other hkk] at hk
      rw [atKey_put_other hkk]
      exact h4 k y hk z
theorem MapFn.drop (h : MapFn E P K w b s f) (KL : Keyed P K) (ht : P.underlying t = some (.map K e)) {key : Value} {kl : Lit} (hkey : keyOf P K key = some kl) (ty : TypeId) :
    ∃ w', (Builtin.delete_ #[t, K] ty #[.map (some b), key]).run P w = .ok (.tuple #[]) w' ∧ MapFn E P K w' b (if (f kl).isSome then s - 1 else s) (upd f kl none) ∧ w.mapTurned w' b := by
  obtain ⟨D, h1, h2, h3, h4⟩ := h
  obtain ⟨w', hrun, ho, htn⟩ := h1.drop KL ht hkey ty
  have htd := h1.tidy KL
  have hsz : Maps.size (D.del kl) = if (f kl).isSome then s - 1 else s := by
    have := size_del (k := kl) htd
    rw [h3 kl, h2] at this
    split at this <;> simp_all <;> omega
  have ho' := ownsMap_tight ho
  rw [hsz] at ho'
  refine ⟨w', hrun, ⟨_, ho', hsz, fun k => ?_, fun k y hk z => ?_⟩, htn⟩
  · by_cases hkk : k = kl
    · subst hkk
      rw [has_del_same, upd_same]
      rfl
    · rw [has_del_other hkk, upd_other hkk, h3 k]
  · by_cases hkk : k = kl
    · subst hkk
      rw [upd_same] at hk
      cases hk
    · rw [upd_other hkk] at hk
      rw [atKey_del_other hkk]
      exact h4 k y hk z
end Go.Proofs.YthfncbnokjikfaaDoor.mapfn
