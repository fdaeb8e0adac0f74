/- Layer 5: MessageShort, MessageUnlike, MessageApart, walked. Layer 5: MessageUnlike, MessageApart, walked. Conditions: as each theorem says. -/
import Derived.Test.YtommklkihjmgcaaGreatDoorLawX
import Derived.Test.YtommklkihjmgcaaGreatDoorPurY
namespace Go.Proofs.YtommklkihjmgcaaGreatDoor.msgw
open Go.RowKit Go.Proofs.YtommklkihjmgcaaGreatDoorW.PrintWords Go.Proofs.YtommklkihjmgcaaGreatDoor.msgp Go.Proofs.YtommklkihjmgcaaGreatDoor.buf Go.Proofs.YtommklkihjmgcaaGreatDoor.fieldp Go.Proofs.YtommklkihjmgcaaGreatDoor.fieldw Go.Proofs.YtommklkihjmgcaaGreatDoor.fieldl
theorem Txt.take {w : World} {lo : Nat} {A : Option Addr} {n c m : Nat} {l : List UInt8} (h : Txt w lo (.slice A n c) l) (hm : m ≤ l.length) : Txt w lo (.slice A m c) (l.take m) := by
  have := Kd.R_take h (m := m) (by simpa [nums8] using hm)
  unfold Txt
  rw [show nums8 (l.take m) = (nums8 l).take m by simp [nums8, List.map_take]]
  exact this
theorem Txt.at_ {w : World} {lo : Nat} {A : Option Addr} {n c : Nat} {l : List UInt8} (h : Txt w lo (.slice A n c) l) : n = l.length ∧ l.length ≤ c ∧ Kd.C (Kd.int .u8) w A l.length (nums8 l) := by
  obtain ⟨A', c', e, h1, h2⟩ := h.reads
  simp only [Value.slice.injEq] at e
  obtain ⟨rfl, rfl, rfl⟩ := e
  exact ⟨rfl, h1, h2⟩
end Go.Proofs.YtommklkihjmgcaaGreatDoor.msgw
namespace Go.Proofs.YtommklkihjmgcaaGreatDoor.msgw
open Go.RowKit Go.Proofs.YtommklkihjmgcaaGreatDoorW.PrintWords Go.Proofs.YtommklkihjmgcaaGreatDoor.msgp Go.Proofs.YtommklkihjmgcaaGreatDoor.buf Go.Proofs.YtommklkihjmgcaaGreatDoor.fieldp Go.Proofs.YtommklkihjmgcaaGreatDoor.fieldw Go.Proofs.YtommklkihjmgcaaGreatDoor.fieldl
theorem same_w {W : World} {v1 v2 : Value} {F1 F2 : Flds} (h1 : FsAt W v1 F1) (h2 : FsAt W v2 F2) (hl : F1.length ≤ 1048576) (t1 t2 : Int) {b : Bool} (hb : (decide (t1 = t2) && decide (F1 = F2)) = b) :
    Calls Tryz.prog 18 #[.agg #[.int .i64 t1, v1], .agg #[.int .i64 t2, v2]] W fun e w' => e = .returned (.bool b) ∧ Below W.heap.size W w' :=
  (same_any h1 h2 hl t1 t2).mono fun e w' h => by rw [hb] at h; exact h
theorem conv_w {w : World} {lo : Nat} {A : Option Addr} {c : Nat} {l : List UInt8} (h : Txt w lo (.slice A l.length c) l) {s : ByteArray} (hs : (⟨l.toArray⟩ : ByteArray) = s) : (convert 33 9 (.slice A l.length c)).run Tryz.prog w = .ok (.string s) w := by
  rw [← hs]; exact convC h.at_.2.2
end Go.Proofs.YtommklkihjmgcaaGreatDoor.msgw
