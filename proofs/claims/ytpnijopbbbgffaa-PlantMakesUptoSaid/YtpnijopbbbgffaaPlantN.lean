/- Walks of layer 3's statements: several plants of one's own, and any blocks beside them. Conditions: as each theorem says. -/
import Derived.Test.YtpnijopbbbgffaaPlantJ
namespace Go.Proofs.Ytpnijopbbbgffaa.plantw
open Go.RowKit
open Go.Proofs.Ytpnijopbbbgffaa.plantp
open Go.Proofs.Ytpnijopbbbgffaa.mapfn
open Go.Proofs.Ytpnijopbbbgffaa.buf
/-- Plants of one's own, each with its own blocks, and blocks beside. -/
def Mob (w : World) (L : List (Nat × PS)) (F : List (Nat × Obj)) (W : World) : Prop := ∃ T : List (Nat × PS × List Nat), T.map (fun t => (t.1, t.2.1)) = L ∧ (∀ t ∈ T, IsP W t.1 t.2.1 t.2.2 ∧ ∀ k ∈ t.2.2, w.heap.size ≤ k) ∧ T.Pairwise (fun a b => ∀ k ∈ a.2.2, k ∉ b.2.2) ∧ Below w.heap.size w W ∧ ∀ x ∈ F, (∀ t ∈ T, x.1 ∉ t.2.2) ∧ W.heap[x.1]? = some x.2
theorem Own.mob {w W : World} {g : Nat} {p : PS} (h : Own w g p W) : Mob w [(g, p)] [] W := by
  obtain ⟨O, h1, h2, h3⟩ := h
  refine ⟨[(g, p, O)], rfl, ?_, by simp, h2, fun x hx => by cases hx⟩
  intro t ht
  obtain rfl := List.mem_singleton.1 ht
  exact ⟨h1, h3⟩
section
variable {w W W' : World} {g : Nat} {p : PS} {L : List (Nat × PS)} {F : List (Nat × Obj)}
theorem Mob.base (h : Mob w L F W) : Below w.heap.size w W := by
  obtain ⟨T, h0, h1, h2, h3, h4⟩ := h
  exact h3
theorem Mob.at (h : Mob w L F W) {H : Nat} {s : Obj} (hm : (H, s) ∈ F) : W.heap[H]? = some s := by
  obtain ⟨T, h0, h1, h2, h3, h4⟩ := h
  exact (h4 _ hm).2
theorem Mob.below (h : Mob w L F W) (hb : Below W.heap.size W W') : Mob w L F W' := by
  obtain ⟨T, h0, h1, h2, h3, h4⟩ := h
  exact ⟨T, h0, fun t ht => ⟨(h1 t ht).1.below hb, (h1 t ht).2⟩, h2, h3.trans (hb.mono h3.size), fun x hx => ⟨(h4 x hx).1, (hb.block _ (Array.getElem?_eq_some_iff.1 (h4 x hx).2).1).trans (h4 x hx).2⟩⟩
theorem Mob.drew (h : Mob w L F W) : Mob w L F W.drew := h.below ⟨rfl, rfl, rfl, Nat.le_refl _, fun _ _ => rfl⟩
theorem Mob.drop {G : List (Nat × Obj)} (h : Mob w L F W) (hs : ∀ x ∈ G, x ∈ F) : Mob w L G W := by
  obtain ⟨T, h0, h1, h2, h3, h4⟩ := h
  exact ⟨T, h0, h1, h2, h3, fun x hx => h4 x (hs x hx)⟩
theorem Mob.adds (h : Mob w L F W) (hb : Below W.heap.size W W') (G : List (Nat × Obj)) (hG : ∀ x ∈ G, W.heap.size ≤ x.1 ∧ W'.heap[x.1]? = some x.2) : Mob w L (G ++ F) W' := by
  obtain ⟨T, h0, h1, h2, h3, h4⟩ := h
  refine ⟨T, h0, fun t ht => ⟨(h1 t ht).1.below hb, (h1 t ht).2⟩, h2, h3.trans (hb.mono h3.size), fun x hx => ?_⟩
  rcases List.mem_append.1 hx with hx | hx
  · exact ⟨fun t ht hm => by have := (h1 t ht).1.lt _ hm; have := (hG x hx).1; omega, (hG x hx).2⟩
  · exact ⟨(h4 x hx).1, (hb.block _ (Array.getElem?_eq_some_iff.1 (h4 x hx).2).1).trans (h4 x hx).2⟩
theorem Mob.add (h : Mob w L F W) (hb : Below W.heap.size W W') {H : Nat} {s : Obj} (hH : W.heap.size ≤ H) (hs : W'.heap[H]? = some s) : Mob w L ((H, s) :: F) W' :=
  h.adds hb [(H, s)] (fun x hx => by obtain rfl := List.mem_singleton.1 hx; exact ⟨hH, hs⟩)
theorem Mob.swap {a b : Nat × PS} (h : Mob w (a :: b :: L) F W) : Mob w (b :: a :: L) F W := by
  obtain ⟨T, h0, h1, h2, h3, h4⟩ := h
  match T, h0 with
  | ta :: tb :: T, h0 =>
    simp only [List.map_cons, List.cons.injEq] at h0
    obtain ⟨e1, e2, e3⟩ := h0
    have q := List.pairwise_cons.1 h2
    have q' := List.pairwise_cons.1 q.2
    refine ⟨tb :: ta :: T, by simp [e1, e2, e3], fun t ht => h1 t (by simp at ht ⊢; rcases ht with h | h | h <;> simp [h]), ?_, h3, fun x hx => ⟨fun t ht => (h4 x hx).1 t (by simp at ht ⊢; rcases ht with h | h | h <;> simp [h]), (h4 x hx).2⟩⟩
    refine List.pairwise_cons.2 ⟨fun t ht => ?_, List.pairwise_cons.2 ⟨fun t ht => q.1 t (by simp [ht]), q'.2⟩⟩
    rcases List.mem_cons.1 ht with rfl | ht
    · exact fun k hk hm => q.1 tb (by simp) k hm hk
    · exact q'.1 t ht
theorem Mob.perm {L' : List (Nat × PS)} (h : Mob w L F W) (hp : L.Perm L') : Mob w L' F W := by
  obtain ⟨T, h0, h1, h2, h3, h4⟩ := h
  obtain ⟨T', e1, e2⟩ := perm_map _ hp T h0
  exact ⟨T', e2, fun t ht => h1 t (e1.mem_iff.2 ht), (e1.pairwise_iff (fun h k hk hm => h k hm hk)).1 h2, h3, fun x hx => ⟨fun t ht => (h4 x hx).1 t (e1.mem_iff.2 ht), (h4 x hx).2⟩⟩
theorem Mob.rot {a b c : Nat × PS} (h : Mob w (a :: b :: c :: L) F W) : Mob w (b :: c :: a :: L) F W :=
  h.perm ((List.Perm.swap b a (c :: L)).trans (.cons b (.swap c a L)))
theorem Mob.less {a : Nat × PS} (h : Mob w (a :: L) F W) : Mob w L F W := by
  obtain ⟨T, h0, h1, h2, h3, h4⟩ := h
  match T, h0 with
  | ta :: T, h0 =>
    simp only [List.map_cons, List.cons.injEq] at h0
    exact ⟨T, h0.2, fun t ht => h1 t (by simp [ht]), (List.pairwise_cons.1 h2).2, h3, fun x hx => ⟨fun t ht => (h4 x hx).1 t (by simp [ht]), (h4 x hx).2⟩⟩
/-- A call that turns the first plant alone. -/
theorem Mob.open (h : Mob w ((g, p) :: L) F W) : ∃ O, IsP W g p O ∧ (∀ x ∈ F, x.1 ∉ O) ∧ ∀ p' W', Left W g p' O W' → Mob w ((g, p') :: L) F W' := by
  obtain ⟨T, h0, h1, h2, h3, h4⟩ := h
  match T, h0 with
  | (g0, p0, O) :: T, h0 =>
    simp only [List.map_cons, List.cons.injEq, Prod.mk.injEq] at h0
    obtain ⟨⟨rfl, rfl⟩, rfl⟩ := h0
    have q := List.pairwise_cons.1 h2
    refine ⟨O, (h1 _ (List.mem_cons_self ..)).1, fun x hx => (h4 x hx).1 _ (List.mem_cons_self ..), fun p' W' hl => ?_⟩
    obtain ⟨O', k1, k2, k3⟩ := hl
    have hsz := h3.size
    have hO := (h1 _ (List.mem_cons_self ..)).2
    refine ⟨(g0, p', O') :: T, rfl, fun t ht => ?_, List.pairwise_cons.2 ⟨fun t ht k hk hm => ?_, q.2⟩, h3.trans (k2.below h3.size hO), fun x hx => ⟨fun t ht => ?_, ?_⟩⟩
    · rcases List.mem_cons.1 ht with rfl | ht
      · exact ⟨k1, fun k hk => by rcases k3 k hk with h | h; exact hO k h; omega⟩
      · exact ⟨(h1 t (by simp [ht])).1.keep fun k hk => k2.block k ((h1 t (by simp [ht])).1.lt k hk) fun hm => q.1 t ht k hm hk, (h1 t (by simp [ht])).2⟩
    · rcases k3 k hk with h | h
      · exact q.1 t ht k h hm
      · have := (h1 t (by simp [ht])).1.lt k hm; omega
    · have hl := (Array.getElem?_eq_some_iff.1 (h4 x hx).2).1
      rcases List.mem_cons.1 ht with rfl | ht
      · intro hm
        rcases k3 _ hm with h | h
        · exact (h4 x hx).1 _ (List.mem_cons_self ..) h
        · omega
      · exact (h4 x hx).1 t (by simp [ht])
    · have hl := (Array.getElem?_eq_some_iff.1 (h4 x hx).2).1
      exact (k2.block _ hl ((h4 x hx).1 _ (List.mem_cons_self ..))).trans (h4 x hx).2
theorem write_mob {H n : Nat} {s : Sec} {cb : Nat} (hn : s.length = n) (h : Mob w ((g, p) :: L) F W) (hm : (H, .cells (secA s) 5 (0, 0)) ∈ F) (hst : p.steps < 1099511627776) (dev place : Int) {q : PS} {r : Int} (hq : p.write dev place s = (q, r)) :
    Calls Try.prog 12 #[.pointer (some ⟨g, 0, none⟩), .int .i64 dev, .int .i64 place, .slice (some ⟨H, 0, none⟩) n cb] W fun e w' => e = .returned (.int .i64 r) ∧ Mob w ((g, q) :: L) F w' := by
  subst hn
  obtain ⟨O, h1, h2, h3⟩ := h.open
  refine (write_any h1 dev place s H cb (h.at hm) (h2 _ hm) hst).mono ?_
  rintro e w' ⟨rfl, hl⟩
  rw [hq] at hl ⊢
  exact ⟨rfl, h3 _ _ hl⟩
theorem flush_mob (h : Mob w ((g, p) :: L) F W) (hst : p.steps < 1099511627776) (dev : Int) {q : PS} {r : Int} (hq : p.flushAt dev = (q, r)) :
    Calls Try.prog 13 #[.pointer (some ⟨g, 0, none⟩), .int .i64 dev] W fun e w' => e = .returned (.int .i64 r) ∧ Mob w ((g, q) :: L) F w' := by
  obtain ⟨O, h1, h2, h3⟩ := h.open
  refine (flush_any h1 dev hst).mono fun e w' ⟨he, hl⟩ => ?_
  rw [hq] at he hl
  exact ⟨he, h3 _ _ hl⟩
theorem boot_mob (h : Mob w ((g, p) :: L) F W) (hst : p.steps < 1099511627776) {vk : Value} {keep : List Int} (hk : IntsAt W vk keep) :
    Calls Try.prog 14 #[.pointer (some ⟨g, 0, none⟩), vk] W fun e w' => e = .returned (.tuple #[]) ∧ Mob w ((g, p.boot keep) :: L) F w' := by
  obtain ⟨O, h1, h2, h3⟩ := h.open
  exact (boot_any h1 hk hst).mono fun e w' ⟨he, hl⟩ => ⟨he, h3 _ _ hl⟩
theorem fuse_mob (h : Mob w ((g, p) :: L) F W) (n : Int) (hn : n ≤ 9223372036854775807) :
    Calls Try.prog 23 #[.pointer (some ⟨g, 0, none⟩), .int .i64 n] W fun e w' => e = .returned (.tuple #[]) ∧ Mob w ((g, p.fuseAt n) :: L) F w' := by
  obtain ⟨O, h1, h2, h3⟩ := h.open
  exact (fuse_is h1 n hn).mono fun e w' ⟨he, hl⟩ => ⟨he, h3 _ _ hl⟩
theorem on_mob (h : Mob w ((g, p) :: L) F W) : Calls Try.prog 24 #[.pointer (some ⟨g, 0, none⟩)] W fun e w' => e = .returned (.bool (!p.off)) ∧ w' = W := by
  obtain ⟨O, h1, _⟩ := h.open
  exact on_is h1
theorem steps_mob (h : Mob w ((g, p) :: L) F W) : Calls Try.prog 16 #[.pointer (some ⟨g, 0, none⟩)] W fun e w' => e = .returned (.int .i64 p.steps) ∧ w' = W := by
  obtain ⟨O, h1, _⟩ := h.open
  exact steps_is h1
/-- A sector that is read: a new one beside. -/
theorem read_mob (h : Mob w ((g, p) :: L) F W) (dev place : Int) (hr : p.readE dev place = 0) {s : Sec} (hs : p.sec dev.toNat place.toNat = s) : Calls Try.prog 15 #[.pointer (some ⟨g, 0, none⟩), .int .i64 dev, .int .i64 place] W fun e w' => ∃ H, e = .returned (.tuple #[.slice (some ⟨H, 0, none⟩) 64 64, .int .i64 0]) ∧ Below W.heap.size W w' ∧ Mob w ((g, p) :: L) ((H, .cells (secA s) 5 (0, 0)) :: F) w' := by
  obtain ⟨O, h1, _⟩ := h.open
  refine (read_any h1 dev place).mono ?_
  rintro e w' ⟨hb, ⟨n, _⟩ | ⟨_, H, rfl, k1, k2⟩⟩
  · exact absurd hr n
  · rw [hs] at k2
    exact ⟨H, rfl, hb, h.add hb k1 k2⟩
theorem read_mob_no (h : Mob w ((g, p) :: L) F W) (dev place : Int) {r : Int} (hr : p.readE dev place = r) (h0 : r ≠ 0) : Calls Try.prog 15 #[.pointer (some ⟨g, 0, none⟩), .int .i64 dev, .int .i64 place] W fun e w' => e = .returned (.tuple #[.slice none 0 0, .int .i64 r]) ∧ Mob w ((g, p) :: L) F w' := by
  subst hr
  obtain ⟨O, h1, _⟩ := h.open
  refine (read_any h1 dev place).mono ?_
  rintro e w' ⟨hb, ⟨_, rfl⟩ | ⟨h, _⟩⟩
  · exact ⟨rfl, h.below hb⟩
  · exact absurd h h0
theorem clone_mob (h : Mob w ((g, p) :: L) F W) (hst : p.steps < 1099511627776) :
    Calls Try.prog 22 #[.pointer (some ⟨g, 0, none⟩)] W fun e w' => ∃ q, e = .returned (.pointer (some ⟨q, 0, none⟩)) ∧ Mob w ((q, p) :: (g, p) :: L) F w' := by
  obtain ⟨O, h1, _⟩ := h.open
  refine (clone_any h1 hst).mono ?_
  rintro e w' ⟨q, O', rfl, k1, k2, k3⟩
  refine ⟨q, rfl, ?_⟩
  obtain ⟨T, j0, j1, j2, j3, j4⟩ := h
  refine ⟨(q, p, O') :: T, by simp [j0], fun t ht => ?_, List.pairwise_cons.2 ⟨fun t ht k hk hm => ?_, j2⟩, j3.trans (k2.mono j3.size), fun x hx => ⟨fun t ht hm => ?_, (k2.block _ (Array.getElem?_eq_some_iff.1 (j4 x hx).2).1).trans (j4 x hx).2⟩⟩
  · rcases List.mem_cons.1 ht with rfl | ht
    · exact ⟨k1, fun k hk => by have := k3 k hk; have := j3.size; omega⟩
    · exact ⟨(j1 t ht).1.below k2, (j1 t ht).2⟩
  · have := (j1 t ht).1.lt k hm
    have := k3 k hk
    omega
  · rcases List.mem_cons.1 ht with rfl | ht
    · have := (Array.getElem?_eq_some_iff.1 (j4 x hx).2).1
      have := k3 _ hm
      omega
    · exact (j4 x hx).1 t ht hm
/-- One block beside is turned. -/
theorem Mob.turn {H : Nat} {o o' : Obj} (h : Mob w L ((H, o) :: F) W) (hF : ∀ x ∈ F, x.1 ≠ H) (hH : w.heap.size ≤ H) (ht : Turn [H] W W') (ho : W'.heap[H]? = some o') : Mob w L ((H, o') :: F) W' := by
  obtain ⟨T, h0, h1, h2, h3, h4⟩ := h
  have h5 := h4 (H, o) (List.mem_cons_self ..)
  refine ⟨T, h0, fun t hm => ⟨(h1 t hm).1.turn ht fun k hk => ?_, (h1 t hm).2⟩, h2, h3.trans (ht.below h3.size (by simp; omega)), fun x hx => ?_⟩
  · intro hk'
    obtain rfl := List.mem_singleton.1 hk'
    exact h5.1 t hm hk
  · rcases List.mem_cons.1 hx with rfl | hx
    · exact ⟨h5.1, ho⟩
    · have h6 := h4 x (List.mem_cons_of_mem _ hx)
      exact ⟨h6.1, (ht.block _ (Array.getElem?_eq_some_iff.1 h6.2).1 (by simpa using hF x hx)).trans h6.2⟩
end
end Go.Proofs.Ytpnijopbbbgffaa.plantw
