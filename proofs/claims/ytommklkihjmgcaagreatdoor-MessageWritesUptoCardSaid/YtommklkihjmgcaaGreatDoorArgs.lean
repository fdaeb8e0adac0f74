/- Layer 5: messages that came in, as the walks want them. Conditions: as each theorem says. -/
import Derived.Test.YtommklkihjmgcaaGreatDoorLawX
import Derived.Test.YtommklkihjmgcaaGreatDoorLaidX
import Derived.Test.YtommklkihjmgcaaGreatDoorOpens
namespace Go.Proofs.YtommklkihjmgcaaGreatDoor.msgw
open Go.RowKit Go.Proofs.YtommklkihjmgcaaGreatDoorW.PrintWords Go.Proofs.YtommklkihjmgcaaGreatDoor.opens
open Go.Proofs.YtommklkihjmgcaaGreatDoor.msgp
open Go.Proofs.YtommklkihjmgcaaGreatDoor.buf
/-- Cells of a row of things that came in: at any start, in one block. -/
theorem rows_in {α : Type} {k : Kd α} {w : World} {A : Option Addr} {l : List α} (d : α) (h : k.C w A l.length l) (cs : α → List Value) (hcs : ∀ a c, k.K w a c → c = cs a) (hn : 0 < k.sz) (hl : ∀ a, (cs a).length = k.sz) :
    ∀ i (hi : i < l.length), ∃ b o, A = some ⟨b, o, none⟩ ∧ ∀ j u, (cs l[i])[j]? = some u → w.cell? ⟨b, o + i * k.sz + j, none⟩ = some u := by
  have get : ∀ i (hi : i < l.length), ∃ ad, A = some ad ∧ ∀ j u, (cs l[i])[j]? = some u → w.cell? (ad.add (i * k.sz + j)) = some u := fun i hi => by
    obtain ⟨ad, c, h1, h2, h3, h4⟩ := Kd.C_get h d (i : Int) (by omega) (by omega)
    have e : l.getD (i : Int).toNat d = l[i] := by simp [List.getD_eq_getElem?_getD, hi]
    rw [e] at h3
    obtain rfl := hcs _ _ h3
    exact ⟨ad, h1, fun j u hu => by simpa using h4 j u hu⟩
  intro i hi
  obtain ⟨⟨b, o, s⟩, rfl, h1⟩ := get i hi
  have hsp : s = none := by
    obtain ⟨ad, e0, h0⟩ := get 0 (by omega)
    obtain rfl := Option.some.inj e0
    obtain ⟨u, hu⟩ : ∃ u, (cs (l[0]'(by omega)))[0]? = some u := ⟨_, List.getElem?_eq_getElem (Nat.lt_of_lt_of_eq hn (hl _).symm)⟩
    have hz := h0 0 u hu
    cases s with
    | none => rfl
    | some s => simp [Addr.add, World.cell?] at hz; split at hz <;> simp_all
  subst hsp
  refine ⟨b, o, rfl, fun j u hu => ?_⟩
  have := h1 j u hu
  rw [show (⟨b, o, none⟩ : Addr).add (i * k.sz + j) = ⟨b, o + i * k.sz + j, none⟩ by unfold Addr.add; split <;> simp_all; omega] at this
  exact this
end Go.Proofs.YtommklkihjmgcaaGreatDoor.msgw
