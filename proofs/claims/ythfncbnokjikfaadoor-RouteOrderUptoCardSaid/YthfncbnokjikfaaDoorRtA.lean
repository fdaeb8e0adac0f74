/- Layer 11: how a table of prefixes lies in memory. Conditions: as each theorem says. -/
import Derived.Test.YthfncbnokjikfaaDoorRouteP
import Derived.Test.YthfncbnokjikfaaDoorMapFn
import Derived.Test.YthfncbnokjikfaaDoorBuf
import Derived.Test.YthfncbnokjikfaaDoorShelf
import Derived.Shelf.Strings.SlTrimAscii
import Derived.Carry
import Derived.Deep.QuietTactic
import Derived.BigQuiet
import Derived.Lib.Hide
namespace Go.Proofs.YthfncbnokjikfaaDoor.routew
open Go.RowKit
open Go.Proofs.YthfncbnokjikfaaDoor.routep
open Go.Proofs.YthfncbnokjikfaaDoor.mapfn
open Go.Proofs.YthfncbnokjikfaaDoor.buf
/-- A row's header: where it stands, how long it is, how much room it has. -/
structure Hd where
  at_ : Option (Nat × Nat)
  n : Nat
  c : Nat
def Hd.v : Hd → Value
  | ⟨none, n, c⟩ => .slice none n c
  | ⟨some (b, o), n, c⟩ => .slice (some ⟨b, o, none⟩) n c
def num (n : Nat) : DataW Unit := .lit (.int .i64 n)
def Hd.d : Hd → DataW Unit
  | ⟨none, n, c⟩ => .agg [num n, num c]
  | ⟨some (b, o), n, c⟩ => .agg [num n, num c, num b, num o]
def hdE : El Hd where
  enc := Hd.v
  dat := Hd.d
  enc_inj := by
    rintro ⟨_ | ⟨b, o⟩, n, c⟩ ⟨_ | ⟨b', o'⟩, n', c'⟩ h <;> simp_all [Hd.v]
  dat_inj := by
    rintro ⟨_ | ⟨b, o⟩, n, c⟩ ⟨_ | ⟨b', o'⟩, n', c'⟩ h <;> simp_all [Hd.d, num] <;> omega
/-- Numbers in a slice. -/
def IntsAt (w : World) (v : Value) (zs : List Int) : Prop :=
  zs.length ≤ maxLen ∧ ((zs = [] ∧ ∃ p c, v = .slice p 0 c) ∨ ∃ b o c, v = .slice (some ⟨b, o, none⟩) zs.length c ∧ b < w.heap.size ∧ zs.length ≤ c ∧ ∀ i (h : i < zs.length), w.cell? ⟨b, o + i, none⟩ = some (.int .i64 zs[i]))
theorem IntsAt.shape {w : World} {v : Value} {zs : List Int} (h : IntsAt w v zs) : ∃ p c, v = .slice p zs.length c := by
  obtain ⟨_, ⟨rfl, p, c, rfl⟩ | ⟨b, o, c, rfl, _⟩⟩ := h
  · exact ⟨_, _, rfl⟩
  · exact ⟨_, _, rfl⟩
theorem IntsAt.room {w : World} {p : Option Addr} {n c : Nat} {zs : List Int} (h : IntsAt w (.slice p n c) zs) (h0 : 0 < zs.length) : zs.length ≤ c := by
  obtain ⟨_, ⟨rfl, _⟩ | ⟨b, o, c', hv, _, h2, _⟩⟩ := h
  · simp at h0
  · simp only [Value.slice.injEq] at hv
    omega
theorem IntsAt.below {w w' : World} {v : Value} {zs : List Int} (h : IntsAt w v zs) (hb : Below w.heap.size w w') : IntsAt w' v zs := by
  obtain ⟨h0, h1 | ⟨b, o, c, h1, h2, hc, h3⟩⟩ := h
  · exact ⟨h0, .inl h1⟩
  · exact ⟨h0, .inr ⟨b, o, c, h1, by have := hb.size; omega, hc, fun i hi => (hb.cell (p := ⟨b, o + i, none⟩) h2).trans (h3 i hi)⟩⟩
/-- A map's block that turns holds no numbers. -/
theorem IntsAt.turned {w w' : World} {v : Value} {zs : List Int} {m : Nat} (h : IntsAt w v zs) (t : Turn [m] w w') (hm : ∀ o, w.cell? ⟨m, o, none⟩ = none) : IntsAt w' v zs := by
  obtain ⟨h0, h1 | ⟨b, o, c, h1, h2, hc, h3⟩⟩ := h
  · exact ⟨h0, .inl h1⟩
  · by_cases hz : zs.length = 0
    · obtain rfl := List.eq_nil_of_length_eq_zero hz
      exact ⟨h0, .inl ⟨rfl, _, _, h1⟩⟩
    · refine ⟨h0, .inr ⟨b, o, c, h1, by have := t.size; omega, hc, fun i hi => ?_⟩⟩
      have hbm : b ≠ m := fun e => by
        have := h3 0 (by omega)
        rw [e, hm] at this
        cases this
      exact (World.cell?_of_block (a := ⟨b, o + i, none⟩) (t.block b h2 (by simpa using hbm))).trans (h3 i hi)
/-- New numbers. -/
def FreshInts (w : World) (v : Value) (zs : List Int) (w' : World) : Prop :=
  Below w.heap.size w w' ∧ ∃ g c cur, v = .slice (some ⟨g, 0, none⟩) zs.length c ∧ w.heap.size ≤ g ∧ w'.heap[g]? = some (.cells cur 3 (0, 0)) ∧ zs.length ≤ c ∧ c ≤ maxLen ∧ cur.size = c ∧ cur.toList.take zs.length = zs.map (Value.int .i64)
theorem FreshInts.ints {w w' : World} {v : Value} {zs : List Int} (h : FreshInts w v zs w') : IntsAt w' v zs := by
  obtain ⟨hb, g, c, cur, rfl, h1, h2, h3, h4, h5, h6⟩ := h
  refine ⟨by omega, .inr ⟨g, 0, c, rfl, (Array.getElem?_eq_some_iff.1 h2).1, h3, fun i hi => ?_⟩⟩
  rw [cells_at h2, take_get h6 (by omega)]
  simp [hi]
theorem FreshInts.hd {w w' : World} {v : Value} {zs : List Int} (h : FreshInts w v zs w') : ∃ x : Hd, v = hdE.enc x := by
  obtain ⟨hb, g, c, cur, rfl, h1, h2, h3, h4, h5, h6⟩ := h
  exact ⟨⟨some (g, 0), zs.length, c⟩, rfl⟩
/-- slices.Clone of numbers. -/
theorem clone_any {w : World} {v : Value} {zs : List Int} (h : IntsAt w v zs) (h0 : zs ≠ []) (hbig : zs.length * 8 ≤ 140737488355328) : Calls Tryd.prog 23 #[v] w fun e w' => ∃ v', e = .returned v' ∧ FreshInts w v' zs w' := by
  obtain ⟨hl, ⟨rfl, _⟩ | ⟨b, o, c, rfl, h2, _, h3⟩⟩ := h
  · exact absurd rfl h0
  · refine (Tryd.slices_Clone_int b o zs.length c zs w (Nat.le_refl _) hbig fun j hj => by rw [h3 j hj]; simp [List.getD_eq_getElem?_getD, hj]).mono ?_
    rintro e w' ⟨v', rfl, ⟨q1, ⟨rfl, q2⟩ | ⟨g, cap, cur, rfl, r1, r2, r3, r4, r5, r6⟩⟩, _, hb⟩
    · exact absurd (List.eq_nil_of_length_eq_zero q2) h0
    · exact ⟨_, rfl, hb, g, cap, cur, rfl, r1, r2, r3, r4, by simpa using r5, by simpa using r6⟩
theorem contains_any {w : World} {v : Value} {zs : List Int} (h : IntsAt w v zs) (x : Int) (n : Nat) (hn : n ≤ zs.length) {p : Option Addr} {c c' : Nat} (hv : v = .slice p zs.length c) : Calls Tryd.prog 35 #[.slice p n c', .int .i64 x] w fun e w' => e = .returned (.bool ((zs.take n).contains x)) ∧ w' = w := by
  subst hv
  obtain ⟨hl, ⟨rfl, p', c2, hv⟩ | ⟨b, o, c2, hv, h2, _, h3⟩⟩ := h
  · simp only [Value.slice.injEq] at hv
    obtain rfl : n = 0 := by simpa using hn
    exact Tryd.slices_Contains_int_empty p c' x w
  · simp only [Value.slice.injEq, true_and] at hv
    obtain ⟨rfl, rfl⟩ := hv
    refine Tryd.slices_Contains_int b o n c' zs x w hn (by simp only [maxLen] at hl; omega) fun j hj => by rw [h3 j hj]; simp [List.getD_eq_getElem?_getD, hj]
/-- The digits ahead are cut off. -/
def digits10 : ByteArray := ⟨#[48, 49, 50, 51, 52, 53, 54, 55, 56, 57]⟩
theorem trim_any (s : ByteArray) (w : World) : Calls Tryd.prog 24 #[.string s, .string ⟨#[48, 49, 50, 51, 52, 53, 54, 55, 56, 57]⟩] w fun e w' => (∃ r : ByteArray, e = .returned (.string r) ∧ (r = ⟨#[]⟩ ↔ s.data.toList.all digitB = true)) ∧ Below w.heap.size w w' := by
  refine (Any.strings_TrimLeft_laid Tryd.lays161 (by kernel_rfl) s ⟨#[48, 49, 50, 51, 52, 53, 54, 55, 56, 57]⟩ w (by decide) (ascii_of_all (by decide))).mono ?_
  rintro e w' ⟨rfl, hb⟩
  refine ⟨⟨_, rfl, ?_⟩, hb⟩
  have key : ∀ b : UInt8, digitB b = ([48, 49, 50, 51, 52, 53, 54, 55, 56, 57] : List UInt8).contains b := by
    intro b
    have : ∀ n : Fin 256, digitB (UInt8.ofNat n) = ([48, 49, 50, 51, 52, 53, 54, 55, 56, 57] : List UInt8).contains (UInt8.ofNat n) := by decide +kernel
    have := this ⟨b.toNat, b.toNat_lt⟩
    simpa using this
  have e0 : (⟨(Lib.trimLeftS s.data.toList [48, 49, 50, 51, 52, 53, 54, 55, 56, 57]).toArray⟩ : ByteArray) = ⟨#[]⟩ ↔ Lib.trimLeftS s.data.toList [48, 49, 50, 51, 52, 53, 54, 55, 56, 57] = [] := by
    constructor
    · intro h
      have := congrArg (fun b => b.data.toList) h
      simpa using this
    · intro h
      rw [h]
  refine e0.trans ?_
  unfold Lib.trimLeftS
  generalize s.data.toList = l
  induction l with
  | nil => simp
  | cons x l ih =>
    rw [List.all_cons, key x, List.dropWhile_cons]
    split
    · rename_i hx
      rw [show ([48, 49, 50, 51, 52, 53, 54, 55, 56, 57] : List UInt8).contains x = true from hx, Bool.true_and]
      exact ih
    · rename_i hx
      have : ([48, 49, 50, 51, 52, 53, 54, 55, 56, 57] : List UInt8).contains x = false := by
        cases h : ([48, 49, 50, 51, 52, 53, 54, 55, 56, 57] : List UInt8).contains x with
        | true => exact absurd h hx
        | false => rfl
      rw [this]
      simp
/-- A map as the table says. -/
def Holds (w : World) (l : Tab) (f : Lit → Option Hd) : Prop := ∀ k : Key, (get l k = none → f (.string k) = none) ∧ ∀ to, get l k = some to → ∃ h : Hd, f (.string k) = some h ∧ IntsAt w h.v to
/-- A table in memory: block g, its map's block b. -/
structure TabAt (w : World) (g b : Nat) (mem : Int) (l : Tab) : Prop where
  blk : w.heap[g]? = some (.cells #[.int .i64 mem, .map (some b)] 57 (0, 0))
  body : ∃ f, MapFn hdE Tryd.prog 9 w b l.length f ∧ Holds w l f
theorem TabAt.below {w w' : World} {g b : Nat} {mem : Int} {l : Tab} (h : TabAt w g b mem l) (hb : Below w.heap.size w w') : TabAt w' g b mem l := by
  obtain ⟨h1, f, h2, h3⟩ := h
  refine ⟨(hb.block g (Array.getElem?_eq_some_iff.1 h1).1).trans h1, f, h2.block (hb.block b h2.lt), fun k => ⟨(h3 k).1, fun to hto => ?_⟩⟩
  obtain ⟨x, hx, hi⟩ := (h3 k).2 to hto
  exact ⟨x, hx, hi.below hb⟩
theorem keyed_string : Go.Maps.Keyed Tryd.prog 9 := Go.Maps.string_keyed Tryd.underlying9
theorem key_string (k : ByteArray) (hk : k.size ≤ maxLen) : Go.keyOf Tryd.prog 9 (.string k) = some (.string k.data.toList) := by
  unfold Go.keyOf Go.mapKey
  rw [Tryd.underlying9]
  simp [hk]
theorem MapFn.nocell {w : World} {b s : Nat} {f : Lit → Option Hd} (h : MapFn hdE Tryd.prog 9 w b s f) (o : Nat) : w.cell? ⟨b, o, none⟩ = none := by
  obtain ⟨D, ⟨es, cl, h1, h2⟩, h3⟩ := h
  unfold World.cell?
  rw [h1]
theorem zero_ints (w : World) : (zeroValue 23).run Tryd.prog w = .ok (hdE.enc ⟨none, 0, 0⟩) w := (zero_of_info (P := Tryd.prog) (t := 23) (v := .slice none 0 0) (n := 1) (by kernel_rfl)).1 w
end Go.Proofs.YthfncbnokjikfaaDoor.routew
