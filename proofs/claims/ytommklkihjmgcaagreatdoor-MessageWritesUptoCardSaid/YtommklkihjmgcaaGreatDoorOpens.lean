/- What a reading of an argument gives: a Lean value of the print's kinds, its bounds, and that its measure is no more than the reading's bulk. Conditions: as each theorem says. -/
import Derived.Test.YtommklkihjmgcaaGreatDoorRows
import Derived.Test.YtommklkihjmgcaaGreatDoorWWords
import Derived.Deep.Slices
import Derived.ChangeArms
import Derived.WideShapes
namespace Go.Proofs.YtommklkihjmgcaaGreatDoor.opens
open Go.RowKit Go.ChangeShapes Go.WideShapes Go.Deep Go.Proofs.YtommklkihjmgcaaGreatDoorW.PrintWords

/-- Every reading of the type is a value of the kind. -/
def Opn (P : Program) (t : TypeId) {α : Type} (k : Kd α) (G : α → Prop) (μ : α → Nat) : Prop :=
  ∀ (H : Type) (enc : TypeId × Value → H) (w : World) (base : Nat) (spare : Nat → Bool) (held : Bool) (fuel : Nat) (cs : List Value) (x : DataW H × List MemPlace),
    DataW.trod enc P w base spare held fuel t cs = some x → ∃ a, k.K w a cs ∧ G a ∧ μ a ≤ Rows.uptoBulk x.1

theorem op_int {P : Program} {t : TypeId} {k : IntKind} (ht : P.underlying t = some (.int k)) : Opn P t (Kd.int k) (fun n => (Lit.int k n).wf = true) (fun _ => 1) := by
  intro H enc w base spare held fuel cs x h
  obtain ⟨n, rfl, rfl, hw⟩ := DataW.trod_int ht h
  exact ⟨n, rfl, hw, by simp [Rows.uptoBulk]⟩
theorem op_string {P : Program} {t : TypeId} (ht : P.underlying t = some .string) : Opn P t Kd.string (fun _ => True) (fun s => s.size + 1) := by
  intro H enc w base spare held fuel cs x h
  obtain ⟨s, rfl, rfl, _⟩ := DataW.trod_string ht h
  exact ⟨s, rfl, trivial, by simp [Rows.uptoBulk]⟩

def sumOf {α : Type} (μ : α → Nat) : List α → Nat
  | [] => 0
  | a :: l => μ a + sumOf μ l
theorem sumOf_map {α H : Type} (μ : α → Nat) (f : Nat → α) (D : Nat → DataW H) (l : List Nat) (h : ∀ i ∈ l, μ (f i) ≤ Rows.uptoBulk (D i)) : sumOf μ (l.map f) ≤ Rows.uptoBulkAll (l.map D) := by
  induction l with
  | nil => simp [sumOf]
  | cons a l ih =>
    have h1 := h a (by simp)
    have h2 := ih fun i hi => h i (by simp [hi])
    simp only [List.map_cons, sumOf, Rows.uptoBulkAll]
    omega
theorem sumOf_mem {α : Type} (μ : α → Nat) {l : List α} {a : α} (h : a ∈ l) : μ a ≤ sumOf μ l := by
  induction l with
  | nil => cases h
  | cons b l ih =>
    simp only [sumOf]
    rcases List.mem_cons.1 h with rfl | h
    · omega
    · have := ih h; omega
theorem sumOf_length {α : Type} (μ : α → Nat) (h : ∀ a, 1 ≤ μ a) (l : List α) : l.length ≤ sumOf μ l := by
  induction l with
  | nil => simp
  | cons b l ih => have := h b; simp only [sumOf, List.length_cons]; omega

theorem op_slice {P : Program} {t e : TypeId} {α : Type} {k : Kd α} {G : α → Prop} {μ : α → Nat} (d : α) (ht : P.underlying t = some (.slice e)) (hc : P.cellsOf e = k.sz) (he : Opn P e k G μ) :
    Opn P t (Kd.slice e k) (fun l => ∀ a ∈ l, G a) (fun l => sumOf μ l + 1) := by
  intro H enc w base spare held fuel cs x h
  rcases open_slice ht h with ⟨rfl, rfl⟩ | ⟨ad, len, cap, m, n, D, Pl, rfl, hb, hl, hm, hmm, rfl, hx⟩
  · exact ⟨[], ⟨none, 0, rfl, Nat.le_refl _, rfl, by simp, fun h => absurd h (by simp)⟩, by simp, by simp [sumOf, Rows.uptoBulk]⟩
  · have hlm : len ≤ m := by rw [hmm]; split <;> omega
    have hall : ∀ i, i < len → ∃ a : α, (∃ c, k.K w a c ∧ ∀ j u, c[j]? = some u → w.cell? (ad.add (i * k.sz + j)) = some u) ∧ G a ∧ μ a ≤ Rows.uptoBulk (D i) := by
      intro i hi
      obtain ⟨c, hcells, htr⟩ := hx i (by omega)
      obtain ⟨a, hK, hG, hμ⟩ := he H enc w base spare held n c _ htr
      refine ⟨a, ⟨c, hK, fun j u hu => ?_⟩, hG, hμ⟩
      obtain ⟨_, hlen, hat⟩ := World.cells?_some hcells
      have hj : j < P.cellsOf e := by have := (List.getElem?_eq_some_iff.1 hu).1; omega
      have h1 := hat j hj
      rw [Go.Deep.add_add, hc] at h1
      rw [h1, hu]
    have : Inhabited α := ⟨d⟩
    obtain ⟨f, hf⟩ := choose_lt hall
    have hlen : ((List.range len).map f).length = len := by simp
    refine ⟨(List.range len).map f, ⟨some ad, cap, by rw [hlen], by rw [hlen]; exact hl, rfl, by rw [hlen]; unfold maxLen at hm; omega, fun _ => ⟨ad, rfl, fun j p hp => ?_⟩⟩, ?_, ?_⟩
    · have hj : j < len := by have := (List.getElem?_eq_some_iff.1 hp).1; omega
      have : p = f j := by simpa [hj] using hp.symm
      subst this
      obtain ⟨⟨c, hK, hcell⟩, _, _⟩ := hf j hj
      exact ⟨c, k.K_len hK, hK, hcell⟩
    · intro a ha
      obtain ⟨i, hi, rfl⟩ := List.mem_map.1 ha
      exact (hf i (List.mem_range.1 hi)).2.1
    · have := sumOf_map μ f D (List.range len) (fun i hi => (hf i (List.mem_range.1 hi)).2.2)
      simp only [Rows.uptoBulk]
      omega

/-- The fields of a struct from one on. -/
def OpFs (P : Program) (fs : List Field) (off : Nat) {α : Type} (k : Kd α) (G : α → Prop) (μ : α → Nat) : Prop :=
  ∀ (H : Type) (enc : TypeId × Value → H) (w : World) (base : Nat) (spare : Nat → Bool) (held : Bool) (n : Nat) (cs : List Value) (xs : List (DataW H × List MemPlace)),
    cs.length = off + k.sz → xs.length = fs.length → (∀ (i : Nat) (f : Field), fs[i]? = some f → DataW.trod enc P w base spare held n f.type ((cs.drop f.offset).take (P.cellsOf f.type)) = xs[i]?) →
    ∃ a, k.K w a (cs.drop off) ∧ G a ∧ μ a ≤ Rows.uptoBulkAll (xs.map (·.1))

theorem opfs_one {P : Program} {f : Field} {off : Nat} {α : Type} {k : Kd α} {G : α → Prop} {μ : α → Nat} (ho : f.offset = off) (hs : P.cellsOf f.type = k.sz) (h : Opn P f.type k G μ) : OpFs P [f] off k G μ := by
  intro H enc w base spare held n cs xs hl hx hf
  have h0 := hf 0 f rfl
  match xs, hx with
  | [y], _ =>
    rw [ho, hs, List.take_of_length_le (by rw [List.length_drop]; omega)] at h0
    obtain ⟨a, hK, hG, hμ⟩ := h H enc w base spare held n _ y h0
    exact ⟨a, hK, hG, by simp [Rows.uptoBulkAll]; omega⟩

theorem opfs_cons {P : Program} {f : Field} {fs : List Field} {off : Nat} {α β : Type} {k0 : Kd α} {G0 : α → Prop} {μ0 : α → Nat} {k : Kd β} {G : β → Prop} {μ : β → Nat}
    (ho : f.offset = off) (hs : P.cellsOf f.type = k0.sz) (h0 : Opn P f.type k0 G0 μ0) (h : OpFs P fs (off + k0.sz) k G μ) : OpFs P (f :: fs) off (Kd.pair k0 k) (fun x => G0 x.1 ∧ G x.2) (fun x => μ0 x.1 + μ x.2) := by
  intro H enc w base spare held n cs xs hl hx hf
  match xs, hx with
  | y :: ys, hx =>
    have hl' : cs.length = off + (k0.sz + k.sz) := hl
    have e0 := hf 0 f rfl
    obtain ⟨a, hK, hG, hμ⟩ := h0 H enc w base spare held n _ y e0
    obtain ⟨b, hKb, hGb, hμb⟩ := h H enc w base spare held n cs ys (by omega) (by simpa using hx) (fun i g hg => by simpa using hf (i + 1) g (by simpa using hg))
    rw [ho, hs] at hK
    refine ⟨(a, b), ⟨_, _, ?_, hK, hKb⟩, ⟨hG, hGb⟩, by simp only [List.map_cons, Rows.uptoBulkAll]; omega⟩
    rw [← List.drop_drop, List.take_append_drop]

theorem op_struct {P : Program} {t : TypeId} {fs : Array Field} {α : Type} {k : Kd α} {G : α → Prop} {μ : α → Nat} (ht : P.underlying t = some (.struct fs)) (hc : P.cellsOf t = k.sz) (h : OpFs P fs.toList 0 k G μ) :
    Opn P t k G (fun a => μ a + 1) := by
  intro H enc w base spare held fuel cs x hx
  obtain ⟨xs, n, _, rfl, hlen, hxl, hf⟩ := DataW.trod_struct ht hx
  obtain ⟨a, hK, hG, hμ⟩ := h H enc w base spare held n cs xs (by omega) (by simpa using hxl) (fun i f hi => hf i f (by simpa using hi))
  exact ⟨a, by simpa using hK, hG, by simp only [Rows.uptoBulk]; omega⟩

theorem op_iso {P : Program} {t : TypeId} {α β : Type} {d : Kd α} {f : β → α} (g : α → β) (hg : ∀ a, f (g a) = a) {G : α → Prop} {μ : α → Nat} (h : Opn P t d G μ) : Opn P t (Kd.iso d f) (fun b => G (f b)) (fun b => μ (f b)) := by
  intro H enc w base spare held fuel cs x hx
  obtain ⟨a, hK, hG, hμ⟩ := h H enc w base spare held fuel cs x hx
  exact ⟨g a, by show d.K w (f (g a)) cs; rw [hg]; exact hK, by show G (f (g a)); rw [hg]; exact hG, by show μ (f (g a)) ≤ _; rw [hg]; exact hμ⟩

/-- An argument, by its reading. -/
theorem op_arg {P : Program} {t : TypeId} {α : Type} {k : Kd α} {G : α → Prop} {μ : α → Nat} (h : Opn P t k G μ) {H : Type} {enc : TypeId × Value → H} {w : World} {base : Nat} {spare : Nat → Bool} {held : Bool} {v : Value} {d : DataW H} {p : List MemPlace}
    (hv : DataW.Trod enc P w base spare held t v d p) : ∃ a, k.K w a v.cells.toList ∧ G a ∧ μ a ≤ Rows.uptoBulk d := by
  obtain ⟨fuel, hf⟩ := hv
  exact h H enc w base spare held fuel _ _ hf
theorem small {H : Type} {l : List (DataW H)} (hk : Rows.uptoSmall H l = true) : Rows.uptoBulkAll l ≤ 1048576 := of_decide_eq_true hk
end Go.Proofs.YtommklkihjmgcaaGreatDoor.opens
