/- Walks of layer 3's statements: several plants of one's own, and sectors beside them. Conditions: as each theorem says. -/
import Derived.Test.YtpnijopbbbgffaaPlantH
namespace Go.Proofs.Ytpnijopbbbgffaa.plantw
open Go.RowKit
open Go.Proofs.Ytpnijopbbbgffaa.plantp
open Go.Proofs.Ytpnijopbbbgffaa.mapfn
open Go.Proofs.Ytpnijopbbbgffaa.buf
/-- Plants of one's own, each with its own blocks, and sectors beside. -/
def Many (w : World) (L : List (Nat × PS)) (F : List (Nat × Sec)) (W : World) : Prop := ∃ T : List (Nat × PS × List Nat), T.map (fun t => (t.1, t.2.1)) = L ∧ (∀ t ∈ T, IsP W t.1 t.2.1 t.2.2 ∧ ∀ k ∈ t.2.2, w.heap.size ≤ k) ∧ T.Pairwise (fun a b => ∀ k ∈ a.2.2, k ∉ b.2.2) ∧ Below w.heap.size w W ∧ ∀ x ∈ F, (∀ t ∈ T, x.1 ∉ t.2.2) ∧ W.heap[x.1]? = some (.cells (secA x.2) 5 (0, 0))
theorem Mine.many {w W : World} {g : Nat} {p : PS} {F : List (Nat × Sec)} (h : Mine w g p F W) : Many w [(g, p)] F W := by
  obtain ⟨O, h1, h2, h3, h4⟩ := h
  refine ⟨[(g, p, O)], rfl, ?_, by simp, h2, fun x hx => ⟨fun t ht => ?_, (h4 x hx).2⟩⟩
  · intro t ht
    obtain rfl := List.mem_singleton.1 ht
    exact ⟨h1, h3⟩
  · obtain rfl := List.mem_singleton.1 ht
    exact (h4 x hx).1
section
variable {w W W' : World} {g : Nat} {p : PS} {L : List (Nat × PS)} {F : List (Nat × Sec)}
theorem Many.base (h : Many w L F W) : Below w.heap.size w W := by
  obtain ⟨T, h0, h1, h2, h3, h4⟩ := h
  exact h3
theorem Many.at (h : Many w L F W) {H : Nat} {s : Sec} (hm : (H, s) ∈ F) : W.heap[H]? = some (.cells (secA s) 5 (0, 0)) := by
  obtain ⟨T, h0, h1, h2, h3, h4⟩ := h
  exact (h4 _ hm).2
theorem Many.below (h : Many w L F W) (hb : Below W.heap.size W W') : Many w L F W' := by
  obtain ⟨T, h0, h1, h2, h3, h4⟩ := h
  exact ⟨T, h0, fun t ht => ⟨(h1 t ht).1.below hb, (h1 t ht).2⟩, h2, h3.trans (hb.mono h3.size), fun x hx => ⟨(h4 x hx).1, (hb.block _ (Array.getElem?_eq_some_iff.1 (h4 x hx).2).1).trans (h4 x hx).2⟩⟩
theorem Many.drew (h : Many w L F W) : Many w L F W.drew := h.below ⟨rfl, rfl, rfl, Nat.le_refl _, fun _ _ => rfl⟩
theorem Many.drop {G : List (Nat × Sec)} (h : Many w L F W) (hs : ∀ x ∈ G, x ∈ F) : Many w L G W := by
  obtain ⟨T, h0, h1, h2, h3, h4⟩ := h
  exact ⟨T, h0, h1, h2, h3, fun x hx => h4 x (hs x hx)⟩
theorem Many.adds (h : Many w L F W) (hb : Below W.heap.size W W') (G : List (Nat × Sec)) (hG : ∀ x ∈ G, W.heap.size ≤ x.1 ∧ W'.heap[x.1]? = some (.cells (secA x.2) 5 (0, 0))) : Many w L (G ++ F) W' := by
  obtain ⟨T, h0, h1, h2, h3, h4⟩ := h
  refine ⟨T, h0, fun t ht => ⟨(h1 t ht).1.below hb, (h1 t ht).2⟩, h2, h3.trans (hb.mono h3.size), fun x hx => ?_⟩
  rcases List.mem_append.1 hx with hx | hx
  · exact ⟨fun t ht hm => by have := (h1 t ht).1.lt _ hm; have := (hG x hx).1; omega, (hG x hx).2⟩
  · exact ⟨(h4 x hx).1, (hb.block _ (Array.getElem?_eq_some_iff.1 (h4 x hx).2).1).trans (h4 x hx).2⟩
theorem Many.add (h : Many w L F W) (hb : Below W.heap.size W W') {H : Nat} {s : Sec} (hH : W.heap.size ≤ H) (hs : W'.heap[H]? = some (.cells (secA s) 5 (0, 0))) : Many w L ((H, s) :: F) W' :=
  h.adds hb [(H, s)] (fun x hx => by obtain rfl := List.mem_singleton.1 hx; exact ⟨hH, hs⟩)
theorem Many.swap {a b : Nat × PS} (h : Many w (a :: b :: L) F W) : Many w (b :: a :: L) F W := by
  obtain ⟨T, h0, h1, h2, h3, h4⟩ := h
  match T, h0 with
  | ta :: tb :: T, h0 =>
    simp only [List.map_cons, List.cons.injEq] at h0
    obtain ⟨e1, e2, e3⟩ := h0
    have q := List.pairwise_cons.1 h2
    have q' := List.pairwise_cons.1 q.2
    refine ⟨tb :: ta :: T, by simp [e1, e2, e3], fun t ht => h1 t (by simp at ht ⊢; rcases ht with h | h | h <;> simp [h]), ?_, h3, fun x hx => ⟨fun t ht => (h4 x hx).1 t (by simp at ht ⊢; rcases ht with h | h | h <;> simp [h]), (h4 x hx).2⟩⟩
    refine List.pairwise_cons.2 ⟨fun t ht => ?_, List.pairwise_cons.2 ⟨fun t ht => q.1 t (by simp [ht]), q'.2⟩⟩
    rcases List.mem_cons.1 ht with rfl | ht
    · exact fun k hk hm => q.1 tb (by simp) k hm hk
    · exact q'.1 t ht
theorem perm_map {α β : Type} (f : α → β) {L L' : List β} (h : L.Perm L') : ∀ T : List α, T.map f = L → ∃ T', T.Perm T' ∧ T'.map f = L' := by
  induction h with
  | nil => intro T hT; exact ⟨T, .refl _, hT⟩
  | cons x _ ih =>
    intro T hT
    match T, hT with
    | a :: T, hT =>
      simp only [List.map_cons, List.cons.injEq] at hT
      obtain ⟨T', h1, h2⟩ := ih T hT.2
      exact ⟨a :: T', .cons a h1, by simp [hT.1, h2]⟩
  | swap x y l =>
    intro T hT
    match T, hT with
    | a :: b :: T, hT =>
      simp only [List.map_cons, List.cons.injEq] at hT
      exact ⟨b :: a :: T, .swap b a T, by simp [hT]⟩
  | trans _ _ i1 i2 =>
    intro T hT
    obtain ⟨T1, h1, h2⟩ := i1 T hT
    obtain ⟨T2, h3, h4⟩ := i2 T1 h2
    exact ⟨T2, h1.trans h3, h4⟩
theorem Many.perm {L' : List (Nat × PS)} (h : Many w L F W) (hp : L.Perm L') : Many w L' F W := by
  obtain ⟨T, h0, h1, h2, h3, h4⟩ := h
  obtain ⟨T', e1, e2⟩ := perm_map _ hp T h0
  exact ⟨T', e2, fun t ht => h1 t (e1.mem_iff.2 ht), (e1.pairwise_iff (fun h k hk hm => h k hm hk)).1 h2, h3, fun x hx => ⟨fun t ht => (h4 x hx).1 t (e1.mem_iff.2 ht), (h4 x hx).2⟩⟩
theorem Many.rot {a b c : Nat × PS} (h : Many w (a :: b :: c :: L) F W) : Many w (b :: c :: a :: L) F W :=
  h.perm ((List.Perm.swap b a (c :: L)).trans (.cons b (.swap c a L)))
theorem Many.less {a : Nat × PS} (h : Many w (a :: L) F W) : Many w L F W := by
  obtain ⟨T, h0, h1, h2, h3, h4⟩ := h
  match T, h0 with
  | ta :: T, h0 =>
    simp only [List.map_cons, List.cons.injEq] at h0
    exact ⟨T, h0.2, fun t ht => h1 t (by simp [ht]), (List.pairwise_cons.1 h2).2, h3, fun x hx => ⟨fun t ht => (h4 x hx).1 t (by simp [ht]), (h4 x hx).2⟩⟩
/-- A call that turns the first plant alone. -/
theorem Many.open (h : Many w ((g, p) :: L) F W) : ∃ O, IsP W g p O ∧ (∀ x ∈ F, x.1 ∉ O) ∧ ∀ p' W', Left W g p' O W' → Many w ((g, p') :: L) F W' := by
  obtain ⟨T, h0, h1, h2, h3, h4⟩ := h
  match T, h0 with
  | (g0, p0, O) :: T, h0 =>
    simp only [List.map_cons, List.cons.injEq, Prod.mk.injEq] at h0
    obtain ⟨⟨rfl, rfl⟩, rfl⟩ := h0
    have q := List.pairwise_cons.1 h2
    refine ⟨O, (h1 _ (List.mem_cons_self ..)).1, fun x hx => (h4 x hx).1 _ (List.mem_cons_self ..), fun p' W' hl => ?_⟩
    obtain ⟨O', k1, k2, k3⟩ := hl
    have hsz := h3.size
    have hO := (h1 _ (List.mem_cons_self ..)).2
    refine ⟨(g0, p', O') :: T, rfl, fun t ht => ?_, List.pairwise_cons.2 ⟨fun t ht k hk hm => ?_, q.2⟩, h3.trans (k2.below h3.size hO), fun x hx => ⟨fun t ht => ?_, ?_⟩⟩
    · rcases List.mem_cons.1 ht with rfl | ht
      · exact ⟨k1, fun k hk => by rcases k3 k hk with h | h; exact hO k h; omega⟩
      · exact ⟨(h1 t (by simp [ht])).1.keep fun k hk => k2.block k ((h1 t (by simp [ht])).1.lt k hk) fun hm => q.1 t ht k hm hk, (h1 t (by simp [ht])).2⟩
    · rcases k3 k hk with h | h
      · exact q.1 t ht k h hm
      · have := (h1 t (by simp [ht])).1.lt k hm; omega
    · have hl := (Array.getElem?_eq_some_iff.1 (h4 x hx).2).1
      rcases List.mem_cons.1 ht with rfl | ht
      · intro hm
        rcases k3 _ hm with h | h
        · exact (h4 x hx).1 _ (List.mem_cons_self ..) h
        · omega
      · exact (h4 x hx).1 t (by simp [ht])
    · have hl := (Array.getElem?_eq_some_iff.1 (h4 x hx).2).1
      exact (k2.block _ hl ((h4 x hx).1 _ (List.mem_cons_self ..))).trans (h4 x hx).2
theorem write_many {H n : Nat} {s : Sec} {cb : Nat} (hn : s.length = n) (h : Many w ((g, p) :: L) F W) (hm : (H, s) ∈ F) (hst : p.steps < 1099511627776) (dev place : Int) {q : PS} {r : Int} (hq : p.write dev place s = (q, r)) :
    Calls Try.prog 12 #[.pointer (some ⟨g, 0, none⟩), .int .i64 dev, .int .i64 place, .slice (some ⟨H, 0, none⟩) n cb] W fun e w' => e = .returned (.int .i64 r) ∧ Many w ((g, q) :: L) F w' := by
  subst hn
  obtain ⟨O, h1, h2, h3⟩ := h.open
  refine (write_any h1 dev place s H cb (h.at hm) (h2 _ hm) hst).mono ?_
  rintro e w' ⟨rfl, hl⟩
  rw [hq] at hl ⊢
  exact ⟨rfl, h3 _ _ hl⟩
theorem flush_many (h : Many w ((g, p) :: L) F W) (hst : p.steps < 1099511627776) (dev : Int) {q : PS} {r : Int} (hq : p.flushAt dev = (q, r)) :
    Calls Try.prog 13 #[.pointer (some ⟨g, 0, none⟩), .int .i64 dev] W fun e w' => e = .returned (.int .i64 r) ∧ Many w ((g, q) :: L) F w' := by
  obtain ⟨O, h1, h2, h3⟩ := h.open
  refine (flush_any h1 dev hst).mono fun e w' ⟨he, hl⟩ => ?_
  rw [hq] at he hl
  exact ⟨he, h3 _ _ hl⟩
theorem boot_many (h : Many w ((g, p) :: L) F W) (hst : p.steps < 1099511627776) {vk : Value} {keep : List Int} (hk : IntsAt W vk keep) :
    Calls Try.prog 14 #[.pointer (some ⟨g, 0, none⟩), vk] W fun e w' => e = .returned (.tuple #[]) ∧ Many w ((g, p.boot keep) :: L) F w' := by
  obtain ⟨O, h1, h2, h3⟩ := h.open
  exact (boot_any h1 hk hst).mono fun e w' ⟨he, hl⟩ => ⟨he, h3 _ _ hl⟩
theorem fuse_many (h : Many w ((g, p) :: L) F W) (n : Int) (hn : n ≤ 9223372036854775807) :
    Calls Try.prog 23 #[.pointer (some ⟨g, 0, none⟩), .int .i64 n] W fun e w' => e = .returned (.tuple #[]) ∧ Many w ((g, p.fuseAt n) :: L) F w' := by
  obtain ⟨O, h1, h2, h3⟩ := h.open
  exact (fuse_is h1 n hn).mono fun e w' ⟨he, hl⟩ => ⟨he, h3 _ _ hl⟩
theorem on_many (h : Many w ((g, p) :: L) F W) : Calls Try.prog 24 #[.pointer (some ⟨g, 0, none⟩)] W fun e w' => e = .returned (.bool (!p.off)) ∧ w' = W := by
  obtain ⟨O, h1, _⟩ := h.open
  exact on_is h1
theorem steps_many (h : Many w ((g, p) :: L) F W) : Calls Try.prog 16 #[.pointer (some ⟨g, 0, none⟩)] W fun e w' => e = .returned (.int .i64 p.steps) ∧ w' = W := by
  obtain ⟨O, h1, _⟩ := h.open
  exact steps_is h1
/-- A sector that is read: a new one beside. -/
theorem read_many (h : Many w ((g, p) :: L) F W) (dev place : Int) (hr : p.readE dev place = 0) {s : Sec} (hs : p.sec dev.toNat place.toNat = s) : Calls Try.prog 15 #[.pointer (some ⟨g, 0, none⟩), .int .i64 dev, .int .i64 place] W fun e w' => ∃ H, e = .returned (.tuple #[.slice (some ⟨H, 0, none⟩) 64 64, .int .i64 0]) ∧ Below W.heap.size W w' ∧ Many w ((g, p) :: L) ((H, s) :: F) w' := by
  obtain ⟨O, h1, _⟩ := h.open
  refine (read_any h1 dev place).mono ?_
  rintro e w' ⟨hb, ⟨n, _⟩ | ⟨_, H, rfl, k1, k2⟩⟩
  · exact absurd hr n
  · rw [hs] at k2
    exact ⟨H, rfl, hb, h.add hb k1 k2⟩
theorem read_many_no (h : Many w ((g, p) :: L) F W) (dev place : Int) {r : Int} (hr : p.readE dev place = r) (h0 : r ≠ 0) : Calls Try.prog 15 #[.pointer (some ⟨g, 0, none⟩), .int .i64 dev, .int .i64 place] W fun e w' => e = .returned (.tuple #[.slice none 0 0, .int .i64 r]) ∧ Many w ((g, p) :: L) F w' := by
  subst hr
  obtain ⟨O, h1, _⟩ := h.open
  refine (read_any h1 dev place).mono ?_
  rintro e w' ⟨hb, ⟨_, rfl⟩ | ⟨h, _⟩⟩
  · exact ⟨rfl, h.below hb⟩
  · exact absurd h h0
theorem clone_many (h : Many w ((g, p) :: L) F W) (hst : p.steps < 1099511627776) :
    Calls Try.prog 22 #[.pointer (some ⟨g, 0, none⟩)] W fun e w' => ∃ q, e = .returned (.pointer (some ⟨q, 0, none⟩)) ∧ Many w ((q, p) :: (g, p) :: L) F w' := by
  obtain ⟨O, h1, _⟩ := h.open
  refine (clone_any h1 hst).mono ?_
  rintro e w' ⟨q, O', rfl, k1, k2, k3⟩
  refine ⟨q, rfl, ?_⟩
  obtain ⟨T, j0, j1, j2, j3, j4⟩ := h
  refine ⟨(q, p, O') :: T, by simp [j0], fun t ht => ?_, List.pairwise_cons.2 ⟨fun t ht k hk hm => ?_, j2⟩, j3.trans (k2.mono j3.size), fun x hx => ⟨fun t ht hm => ?_, (k2.block _ (Array.getElem?_eq_some_iff.1 (j4 x hx).2).1).trans (j4 x hx).2⟩⟩
  · rcases List.mem_cons.1 ht with rfl | ht
    · exact ⟨k1, fun k hk => by have := k3 k hk; have := j3.size; omega⟩
    · exact ⟨(j1 t ht).1.below k2, (j1 t ht).2⟩
  · have := (j1 t ht).1.lt k hm
    have := k3 k hk
    omega
  · rcases List.mem_cons.1 ht with rfl | ht
    · have := (Array.getElem?_eq_some_iff.1 (j4 x hx).2).1
      have := k3 _ hm
      omega
    · exact (j4 x hx).1 t ht hm
end
/-- Bytes that came in, by block and place. -/
theorem BytesIn.shape {w : World} {A : Option Addr} {l : Sec} (h : BytesIn w A l) (h0 : l ≠ []) : ∃ b o, A = some ⟨b, o, none⟩ ∧ b < w.heap.size ∧ ∀ i (hi : i < l.length), w.cell? ⟨b, o + i, none⟩ = some (.int .u8 l[i].toNat) := by
  obtain ⟨⟨b, o, s⟩, rfl, hz⟩ := h 0 (List.length_pos_iff.2 h0)
  have hsp : s = none := by
    cases s with
    | none => rfl
    | some s => simp [Addr.add, World.cell?] at hz; split at hz <;> simp_all
  subst hsp
  refine ⟨b, o, rfl, World.block_lt_of_cell? w ((⟨b, o, none⟩ : Addr).add 0) hz, fun i hi => ?_⟩
  obtain ⟨ad, h1, h2⟩ := h i hi
  cases h1
  rw [show (⟨b, o, none⟩ : Addr).add i = ⟨b, o + i, none⟩ by unfold Addr.add; split <;> simp_all] at h2
  exact h2
/-- Disks, and no fuse. -/
def mkM (most : List Nat) (has : Nat → Nat → Sec) (l : List Wt) (n : Int) : PS := { most := most, has := has, waits := l, off := false, fuse := -1, steps := n }
/-- Two rows made, and what came in copied there. -/
theorem two_made {w w2 : World} {g : Nat} {p : PS} {A0 A1 : Option Addr} {l0 l1 : Sec} (c0 c1 : Nat) (n2 : Own w g p w2) (h0 : BytesIn w A0 l0) (h1 : BytesIn w A1 l1) : ∃ (v1 v2 v3 v4 : World) (H0 H1 : Nat),
    (Instr.makeSlice 22 (.int .i64 64) (.int .i64 64)).run Try.prog w2 = .ok (.slice (some ⟨H0, 0, none⟩) 64 64) v1 ∧
    (Instr.makeSlice 22 (.int .i64 64) (.int .i64 64)).run Try.prog v1 = .ok (.slice (some ⟨H1, 0, none⟩) 64 64) v2 ∧
    (Builtin.copy_ #[22, 22] 3 #[.slice (some ⟨H0, 0, none⟩) 64 64, .slice A0 l0.length c0]).run Try.prog v2 = .ok (.int .i64 (Nat.min l0.length 64 : Nat)) v3 ∧
    (Builtin.copy_ #[22, 22] 3 #[.slice (some ⟨H1, 0, none⟩) 64 64, .slice A1 l1.length c1]).run Try.prog v3 = .ok (.int .i64 (Nat.min l1.length 64 : Nat)) v4 ∧
    Mine w g p [(H1, fit l1), (H0, fit l0)] v4 := by
  have m1 := make64' w2
  have m2 := make64' (w2.alloc (.cells (secA zeroS) 5))
  obtain ⟨v1, e1⟩ : ∃ W, W = w2.alloc (.cells (secA zeroS) 5) := ⟨_, rfl⟩
  have s1 : v1.heap[w2.heap.size]? = some (.cells (secA zeroS) 5 (0, 0)) := by rw [e1]; exact heap_alloc_last _ _
  have b21 : Below w2.heap.size w2 v1 := by rw [e1]; exact (Below.refl _ _).alloc (Nat.le_refl _) _
  have z1 : v1.heap.size = w2.heap.size + 1 := by rw [e1]; simp
  rw [← e1] at m1 m2
  obtain ⟨v2, e2⟩ : ∃ W, W = v1.alloc (.cells (secA zeroS) 5) := ⟨_, rfl⟩
  have s2 : v2.heap[v1.heap.size]? = some (.cells (secA zeroS) 5 (0, 0)) := by rw [e2]; exact heap_alloc_last _ _
  have b22 : Below v1.heap.size v1 v2 := by rw [e2]; exact (Below.refl _ _).alloc (Nat.le_refl _) _
  rw [← e2] at m2
  clear e1 e2
  have s12 : v2.heap[w2.heap.size]? = some (.cells (secA zeroS) 5 (0, 0)) := (b22.block _ (by omega)).trans s1
  have n4 := (n2.below b21).below b22
  have k0 : BytesIn v2 A0 l0 := h0.below n4.base
  have q1 := copy_arg (c := c0) s12 k0
  obtain ⟨v3, e3⟩ : ∃ W, W = v2.setRow w2.heap.size (secA (fit l0)) := ⟨_, rfl⟩
  have t3 : Turn [w2.heap.size, v1.heap.size] v2 v3 := by rw [e3]; exact (Turn.refl _ _).setRow (.inl (by simp)) _
  have s3 : v3.heap[v1.heap.size]? = some (.cells (secA zeroS) 5 (0, 0)) := by rw [e3, setRow_other _ _ _ _ (by omega)]; exact s2
  have s3' : v3.heap[w2.heap.size]? = some (.cells (secA (fit l0)) 5 (0, 0)) := by rw [e3]; exact setRow_block s12
  rw [← e3] at q1
  clear e3
  have b23 : Below w2.heap.size w2 v3 := (b21.trans (b22.mono (by omega))).trans (t3.below (by have := b22.size; omega) (by simp; omega))
  have k3 : BytesIn v3 A1 l1 := h1.below (n2.base.trans (b23.mono n2.base.size))
  have q2 := copy_arg (c := c1) s3 k3
  obtain ⟨v4, e4⟩ : ∃ W, W = v3.setRow v1.heap.size (secA (fit l1)) := ⟨_, rfl⟩
  have t4 : Turn [w2.heap.size, v1.heap.size] v3 v4 := by rw [e4]; exact (Turn.refl _ _).setRow (.inl (by simp)) _
  have s4 : v4.heap[v1.heap.size]? = some (.cells (secA (fit l1)) 5 (0, 0)) := by rw [e4]; exact setRow_block s3
  have s4' : v4.heap[w2.heap.size]? = some (.cells (secA (fit l0)) 5 (0, 0)) := by rw [e4, setRow_other _ _ _ _ (by omega)]; exact s3'
  rw [← e4] at q2
  clear e4
  have b24 : Below w2.heap.size w2 v4 := b23.trans (t4.below b23.size (by simp; omega))
  exact ⟨v1, v2, v3, v4, _, _, m1, m2, q1, q2, n2.mine.adds b24 [(v1.heap.size, fit l1), (w2.heap.size, fit l0)] (fun x hx => by
      rcases List.mem_cons.1 hx with rfl | hx
      · exact ⟨by simp only; omega, s4⟩
      · obtain rfl := List.mem_singleton.1 hx
        exact ⟨Nat.le_refl _, s4'⟩)⟩
end Go.Proofs.Ytpnijopbbbgffaa.plantw
