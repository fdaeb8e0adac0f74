/- Walks of layer 3: Clone. Conditions: as each theorem says. -/
import Derived.Test.YtpnijopbbbgffaaPlantB
import Derived.Test.YtpnijopbbbgffaaBuf2
import Derived.Shelf.SlMaps.Clone
namespace Go.Proofs.Ytpnijopbbbgffaa.plantw
open Go.RowKit
open Go.Proofs.Ytpnijopbbbgffaa.plantp
open Go.Proofs.Ytpnijopbbbgffaa.mapfn
open Go.Proofs.Ytpnijopbbbgffaa.buf
/-- What slices.Clone leaves. -/
def CloneAt (e size n : Nat) (xs : List Value) (w : World) (en : Ending) (w' : World) : Prop :=
  ∃ v', en = .returned v' ∧ Buf w' e size v' n xs ∧ (bufBlock v' = none ∨ ∃ k, bufBlock v' = some k ∧ w.heap.size ≤ k) ∧ Below w.heap.size w w'
set_option maxHeartbeats 1000000 in
theorem clone_waits {w : World} {v : Value} {n : Nat} {xs : List Value} (h : Buf w 72 66 v n xs) (h1 : ∀ u ∈ xs, u.oneCell' = true) (hb : n * 80 ≤ 140737488355328) (hn : n ≤ maxLen) :
    Calls Try.prog 37 #[v] w (CloneAt 72 66 n xs w) := by
  have hx0 := h.1
  by_cases hv : v = .slice none 0 0
  · subst hv
    have hq := fun w => Lib.run_eql_slice_nil (P := Try.prog) w 62 _ none 0 0 0 0 Try.underlying62
    have HH := Lib.hid h
    clear h hx0 h1
    go_enter Try.func37, Try.ntmps37
    go_wp2_with fail
    go_ret
    exact ⟨_, rfl, HH.out, .inl rfl, Below.refl _ _⟩
  · by_cases h0 : n = 0
    · subst h0
      obtain rfl : xs = [] := List.eq_nil_of_length_eq_zero (by simpa using hx0)
      obtain ⟨g, c, rfl⟩ : ∃ g c, v = .slice (some ⟨g, 0, none⟩) 0 c := by
        obtain ⟨_, ⟨_, rfl | ⟨g, rfl⟩⟩ | ⟨g, cap, cur, rfl, _⟩⟩ := h
        · exact absurd rfl hv
        · exact ⟨_, _, rfl⟩
        · exact ⟨_, _, rfl⟩
      have hq := fun w => Lib.run_eql_slice_nil (P := Try.prog) w 62 _ (some ⟨g, 0, none⟩) 0 c 0 0 Try.underlying62
      clear h hx0 h1 hv
      go_enter Try.func37, Try.ntmps37
      go_wp2_with (with_reducible refine wpList_run rfl _ (exec_append_no (.tmp 5) (.tmp 6) 62 rfl 72 _ 66 80 Try.underlying62 info72f rfl rfl (by omega)) ?_)
      go_ret
      exact ⟨_, rfl, ⟨rfl, .inl ⟨rfl, .inr ⟨_, rfl⟩⟩⟩, .inl (by simp [bufBlock]), (Below.refl _ _).alloc (Nat.le_refl _) _⟩
    · obtain ⟨g, cap, rfl⟩ : ∃ g cap, v = .slice (some ⟨g, 0, none⟩) n cap := by
        obtain ⟨_, ⟨h2, _⟩ | ⟨g, cap, cur, rfl, _⟩⟩ := h
        · exact absurd h2 h0
        · exact ⟨_, _, rfl⟩
      have hq := fun w => Lib.run_eql_slice_nil (P := Try.prog) w 62 _ (some ⟨g, 0, none⟩) n cap 0 0 Try.underlying62
      have hB0 : Buf (w.alloc (.cells #[] 72)) 72 66 (.slice (some ⟨w.heap.size, 0, none⟩) 0 0) 0 [] := ⟨rfl, .inl ⟨rfl, .inr ⟨_, rfl⟩⟩⟩
      have hnews : ∀ j u, xs[j]? = some u → (w.alloc (.cells #[] 72)).cell? ((⟨g, 0, none⟩ : Addr).add j) = some u := fun j u hu => by
        have := h.cellsAt rfl j u hu
        exact (World.cell?_of_block (Below.heap_alloc w _ _ (World.block_lt_of_cell? w _ this))).trans this
      have HH := Lib.hid h
      have hl : Hid (xs.length = n * 66) := Lib.hid hx0
      have hm : 0 < n := by omega
      have h63 : 0 + n ≤ maxLen := by omega
      have hby : (0 + n) * 80 ≤ 140737488355328 := by omega
      clear h hx0 hv h0
      go_enter Try.func37, Try.ntmps37
      go_wp2_with (refine wpList_append_buf rfl (.tmp 5) (.tmp 6) 62 rfl 72 _ 66 80 Try.underlying62 info72f rfl (by omega) (.slice (some ⟨w.heap.size, 0, none⟩) 0 0) 0 _ rfl hB0 ⟨g, 0, none⟩ n cap rfl xs hl.out hnews h1 hm h63 hby ?_; intro gg c3 w3 hB3 hg3 hc1 _ hat _)
      go_ret
      have eb : bufBlock (.slice (some ⟨w.heap.size, 0, none⟩) 0 0) = none := rfl
      rw [eb] at hg3 hat
      refine ⟨.slice (some ⟨gg, 0, none⟩) n c3, rfl, by simpa using hB3, .inr ?_, ?_⟩
      · rcases hat with hat | hat
        · cases hat
        · refine ⟨gg, by simp [bufBlock]; omega, ?_⟩
          simp at hat
          omega
      · exact ((Below.refl _ _).alloc (Nat.le_refl _) _).grown hg3 (by simp) (by simp)
set_option maxHeartbeats 1000000 in
theorem clone_disks {w : World} {v : Value} {n : Nat} {xs : List Value} (h : Buf w 67 2 v n xs) (h1 : ∀ u ∈ xs, u.oneCell' = true) (hb : n * 16 ≤ 140737488355328) (hn : n ≤ maxLen) :
    Calls Try.prog 38 #[v] w (CloneAt 67 2 n xs w) := by
  have hx0 := h.1
  by_cases hv : v = .slice none 0 0
  · subst hv
    have hq := fun w => Lib.run_eql_slice_nil (P := Try.prog) w 61 _ none 0 0 0 0 Try.underlying61
    have HH := Lib.hid h
    clear h hx0 h1
    go_enter Try.func38, Try.ntmps38
    go_wp2_with fail
    go_ret
    exact ⟨_, rfl, HH.out, .inl rfl, Below.refl _ _⟩
  · by_cases h0 : n = 0
    · subst h0
      obtain rfl : xs = [] := List.eq_nil_of_length_eq_zero (by simpa using hx0)
      obtain ⟨g, c, rfl⟩ : ∃ g c, v = .slice (some ⟨g, 0, none⟩) 0 c := by
        obtain ⟨_, ⟨_, rfl | ⟨g, rfl⟩⟩ | ⟨g, cap, cur, rfl, _⟩⟩ := h
        · exact absurd rfl hv
        · exact ⟨_, _, rfl⟩
        · exact ⟨_, _, rfl⟩
      have hq := fun w => Lib.run_eql_slice_nil (P := Try.prog) w 61 _ (some ⟨g, 0, none⟩) 0 c 0 0 Try.underlying61
      clear h hx0 h1 hv
      go_enter Try.func38, Try.ntmps38
      go_wp2_with (with_reducible refine wpList_run rfl _ (exec_append_no (.tmp 5) (.tmp 6) 61 rfl 67 _ 2 16 Try.underlying61 info67f rfl rfl (by omega)) ?_)
      go_ret
      exact ⟨_, rfl, ⟨rfl, .inl ⟨rfl, .inr ⟨_, rfl⟩⟩⟩, .inl (by simp [bufBlock]), (Below.refl _ _).alloc (Nat.le_refl _) _⟩
    · obtain ⟨g, cap, rfl⟩ : ∃ g cap, v = .slice (some ⟨g, 0, none⟩) n cap := by
        obtain ⟨_, ⟨h2, _⟩ | ⟨g, cap, cur, rfl, _⟩⟩ := h
        · exact absurd h2 h0
        · exact ⟨_, _, rfl⟩
      have hq := fun w => Lib.run_eql_slice_nil (P := Try.prog) w 61 _ (some ⟨g, 0, none⟩) n cap 0 0 Try.underlying61
      have hB0 : Buf (w.alloc (.cells #[] 67)) 67 2 (.slice (some ⟨w.heap.size, 0, none⟩) 0 0) 0 [] := ⟨rfl, .inl ⟨rfl, .inr ⟨_, rfl⟩⟩⟩
      have hnews : ∀ j u, xs[j]? = some u → (w.alloc (.cells #[] 67)).cell? ((⟨g, 0, none⟩ : Addr).add j) = some u := fun j u hu => by
        have := h.cellsAt rfl j u hu
        exact (World.cell?_of_block (Below.heap_alloc w _ _ (World.block_lt_of_cell? w _ this))).trans this
      have HH := Lib.hid h
      have hl : Hid (xs.length = n * 2) := Lib.hid hx0
      have hm : 0 < n := by omega
      have h63 : 0 + n ≤ maxLen := by omega
      have hby : (0 + n) * 16 ≤ 140737488355328 := by omega
      clear h hx0 hv h0
      go_enter Try.func38, Try.ntmps38
      go_wp2_with (refine wpList_append_buf rfl (.tmp 5) (.tmp 6) 61 rfl 67 _ 2 16 Try.underlying61 info67f rfl (by omega) (.slice (some ⟨w.heap.size, 0, none⟩) 0 0) 0 _ rfl hB0 ⟨g, 0, none⟩ n cap rfl xs hl.out hnews h1 hm h63 hby ?_; intro gg c3 w3 hB3 hg3 hc1 _ hat _)
      go_ret
      have eb : bufBlock (.slice (some ⟨w.heap.size, 0, none⟩) 0 0) = none := rfl
      rw [eb] at hg3 hat
      refine ⟨.slice (some ⟨gg, 0, none⟩) n c3, rfl, by simpa using hB3, .inr ?_, ?_⟩
      · rcases hat with hat | hat
        · cases hat
        · refine ⟨gg, by simp [bufBlock]; omega, ?_⟩
          simp at hat
          omega
      · exact ((Below.refl _ _).alloc (Nat.le_refl _) _).grown hg3 (by simp) (by simp)
theorem maps_clone {w : World} {b : Nat} {es : Array MapEntry} {clock : Nat} (hb : w.heap[b]? = some (.map es clock)) :
    Calls Try.prog 39 #[.map (some b)] w fun e w' => e = .returned (.map (some w.heap.size)) ∧ w' = w.alloc (.map es clock) := by
  have hq := fun w => run_eql_map_nil_sl (P := Try.prog) w 65 _ _ (some b) Try.underlying65
  go_enter Try.func39, Try.ntmps39
  go_wp2
  rw [run_callFunc_extern Try.func44 (by kernel_rfl) (by kernel_rfl) (by kernel_rfl) (e := Extern.MapsClone.clone) (by kernel_rfl), run_maps_clone_sl w 65 hb]
  simp only [Result.andThen]
  rw [Oper.upon_value]
  go_wp2
  rw [run_typeAssert_map_sl _ 65 20 _ _ _ Try.underlying65]
  simp only [Result.andThen]
  rw [Oper.upon_value]
  go_wp2
  go_ret
  exact ⟨rfl, rfl⟩
end Go.Proofs.Ytpnijopbbbgffaa.plantw
