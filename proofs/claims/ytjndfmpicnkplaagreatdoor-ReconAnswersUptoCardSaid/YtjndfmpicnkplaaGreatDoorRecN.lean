/- Layer 20: what was stated, in memory; Ask, Read, Answer as the laws use them. Conditions: as each theorem says. -/
import Derived.Test.YtjndfmpicnkplaaGreatDoorRecY
namespace Go.Proofs.YtjndfmpicnkplaaGreatDoor.msgw
open Go.RowKit
open Go.Proofs.YtjndfmpicnkplaaGreatDoor.msgp
open Go.Proofs.YtjndfmpicnkplaaGreatDoor.buf
open Go.Proofs.YtjndfmpicnkplaaGreatDoor.fieldp
open Go.Proofs.YtjndfmpicnkplaaGreatDoor.fieldw
/-- A statement's own row. -/
structure StIn (w : World) (b : Nat) (code when stan : ByteArray) (mem : Int) (t : Five) : Prop where
  c0 : w.cell? ⟨b, 0, none⟩ = some (.string code)
  c1 : w.cell? ⟨b, 1, none⟩ = some (.string when)
  c2 : w.cell? ⟨b, 2, none⟩ = some (.string stan)
  c3 : w.cell? ⟨b, 3, none⟩ = some (.int .i64 mem)
  c4 : w.cell? ⟨b, 4, none⟩ = some (.int .i64 t.1)
  c5 : w.cell? ⟨b, 5, none⟩ = some (.int .i64 t.2.1)
  c6 : w.cell? ⟨b, 6, none⟩ = some (.int .i64 t.2.2.1)
  c7 : w.cell? ⟨b, 7, none⟩ = some (.int .i64 t.2.2.2.1)
  c8 : w.cell? ⟨b, 8, none⟩ = some (.int .i64 t.2.2.2.2)
theorem StIn.below {w w' : World} {b : Nat} {code when stan : ByteArray} {mem : Int} {t : Five} (h : StIn w b code when stan mem t) (hb : Below w.heap.size w w') : StIn w' b code when stan mem t :=
  ⟨hb.keptCell h.c0, hb.keptCell h.c1, hb.keptCell h.c2, hb.keptCell h.c3, hb.keptCell h.c4, hb.keptCell h.c5, hb.keptCell h.c6, hb.keptCell h.c7, hb.keptCell h.c8⟩
theorem bal_none {L : List Tot} {m : Int} (t : Five) (h : ∀ j (hj : j < L.length), L[j].1 ≠ m) : balB L m t = false := by
  have : totAt L m = L.length := List.findIdx_eq_length.2 (fun x hx => by
    obtain ⟨j, hj, rfl⟩ := List.mem_iff_getElem.1 hx
    simpa using h j hj)
  unfold balB
  rw [this, List.getElem?_eq_none (Nat.le_refl _)]
theorem bal_some {L : List Tot} {m : Int} (t : Five) {k : Nat} (hk : k < L.length) (h : ∀ j (hj : j < L.length), j < k → L[j].1 ≠ m) (he : L[k].1 = m) : balB L m t = decide (L[k].2 = t) := by
  have : totAt L m = k := by
    refine (List.findIdx_eq hk).2 ⟨by simpa using he, fun j hj => ?_⟩
    simpa using h j (by omega) hj
  unfold balB
  rw [this, List.getElem?_eq_getElem hk]
end Go.Proofs.YtjndfmpicnkplaaGreatDoor.msgw
