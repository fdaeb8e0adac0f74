/- Walks of layer 3's statements: a plant of one's own. Conditions: as each theorem says. -/
import Derived.Test.YtpnijopbbbgffaaPlantE
import Derived.Laws.IdiomStrings
namespace Go.Proofs.Ytpnijopbbbgffaa.plantw
open Go.RowKit
open Go.Proofs.Ytpnijopbbbgffaa.plantp
open Go.Proofs.Ytpnijopbbbgffaa.mapfn
open Go.Proofs.Ytpnijopbbbgffaa.buf
theorem ints_lit {W : World} {H : Nat} {zs : List Int} {t : TypeId} {fr : Nat × Nat} (h : W.heap[H]? = some (.cells (zs.map (Value.int .i64)).toArray t fr)) (hz : zs.length ≤ maxLen) : IntsAt W (.slice (some ⟨H, 0, none⟩) zs.length zs.length) zs := by
  refine ⟨hz, .inr ⟨H, 0, _, rfl, (Array.getElem?_eq_some_iff.1 h).1, fun i hi => ?_⟩⟩
  rw [cells_at h]
  simp [hi]
/-- A plant of one's own, made behind w. -/
def Own (w : World) (g : Nat) (p : PS) (W : World) : Prop := ∃ O, IsP W g p O ∧ Below w.heap.size w W ∧ ∀ k ∈ O, w.heap.size ≤ k
theorem Own.left {w W W' : World} {g : Nat} {p' : PS} {O : List Nat} (hb : Below w.heap.size w W) (hO : ∀ k ∈ O, w.heap.size ≤ k) (h : Left W g p' O W') : Own w g p' W' := by
  obtain ⟨O', h1, h2, h3⟩ := h
  refine ⟨O', h1, hb.trans (h2.below hb.size hO), fun k hk => ?_⟩
  rcases h3 k hk with h | h
  · exact hO k h
  · have := hb.size; omega
theorem Own.below {w W W' : World} {g : Nat} {p : PS} (h : Own w g p W) (hb : Below W.heap.size W W') : Own w g p W' := by
  obtain ⟨O, h1, h2, h3⟩ := h
  exact ⟨O, h1.below hb, h2.trans (hb.mono h2.size), h3⟩
theorem Own.base {w W : World} {g : Nat} {p : PS} (h : Own w g p W) : Below w.heap.size w W := by
  obtain ⟨O, h1, h2, h3⟩ := h
  exact h2
/-- Write of a sector that was made just now. -/
theorem write_own {w W W' : World} {g H n : Nat} {p : PS} {s : Sec} {cb : Nat} (hn : s.length = n) (h : Own w g p W) (hb : Below W.heap.size W W') (hH : W.heap.size ≤ H) (hs : W'.heap[H]? = some (.cells (secA s) 5 (0, 0))) (hst : p.steps < 1099511627776) (dev place : Int) :
    Calls Try.prog 12 #[.pointer (some ⟨g, 0, none⟩), .int .i64 dev, .int .i64 place, .slice (some ⟨H, 0, none⟩) n cb] W' fun e w' => e = .returned (.int .i64 (p.write dev place s).2) ∧ Own w g (p.write dev place s).1 w' := by
  subst hn
  obtain ⟨O, h1, h2, h3⟩ := h
  refine (write_any (h1.below hb) dev place s H cb hs (fun hm => by have := h1.lt H hm; omega) hst).mono ?_
  rintro e w' ⟨rfl, hl⟩
  exact ⟨rfl, Own.left (h2.trans (hb.mono h2.size)) h3 hl⟩
theorem flush_own {w W : World} {g : Nat} {p : PS} (h : Own w g p W) (hst : p.steps < 1099511627776) (dev : Int) :
    Calls Try.prog 13 #[.pointer (some ⟨g, 0, none⟩), .int .i64 dev] W fun e w' => e = .returned (.int .i64 (p.flushAt dev).2) ∧ Own w g (p.flushAt dev).1 w' := by
  obtain ⟨O, h1, h2, h3⟩ := h
  exact (flush_any h1 dev hst).mono fun e w' ⟨he, hl⟩ => ⟨he, Own.left h2 h3 hl⟩
theorem boot_own {w W : World} {g : Nat} {p : PS} (h : Own w g p W) (hst : p.steps < 1099511627776) {vk : Value} {keep : List Int} (hk : IntsAt W vk keep) :
    Calls Try.prog 14 #[.pointer (some ⟨g, 0, none⟩), vk] W fun e w' => e = .returned (.tuple #[]) ∧ Own w g (p.boot keep) w' := by
  obtain ⟨O, h1, h2, h3⟩ := h
  exact (boot_any h1 hk hst).mono fun e w' ⟨he, hl⟩ => ⟨he, Own.left h2 h3 hl⟩
theorem fuse_own {w W : World} {g : Nat} {p : PS} (h : Own w g p W) (n : Int) (hn : n ≤ 9223372036854775807) :
    Calls Try.prog 23 #[.pointer (some ⟨g, 0, none⟩), .int .i64 n] W fun e w' => e = .returned (.tuple #[]) ∧ Own w g (p.fuseAt n) w' := by
  obtain ⟨O, h1, h2, h3⟩ := h
  exact (fuse_is h1 n hn).mono fun e w' ⟨he, hl⟩ => ⟨he, Own.left h2 h3 hl⟩
theorem on_own {w W : World} {g : Nat} {p : PS} (h : Own w g p W) : Calls Try.prog 24 #[.pointer (some ⟨g, 0, none⟩)] W fun e w' => e = .returned (.bool (!p.off)) ∧ w' = W := by
  obtain ⟨O, h1, h2, h3⟩ := h
  exact on_is h1
theorem steps_own {w W : World} {g : Nat} {p : PS} (h : Own w g p W) : Calls Try.prog 16 #[.pointer (some ⟨g, 0, none⟩)] W fun e w' => e = .returned (.int .i64 p.steps) ∧ w' = W := by
  obtain ⟨O, h1, h2, h3⟩ := h
  exact steps_is h1
theorem read_own {w W : World} {g : Nat} {p : PS} (h : Own w g p W) (dev place : Int) : Calls Try.prog 15 #[.pointer (some ⟨g, 0, none⟩), .int .i64 dev, .int .i64 place] W (ReadAt p dev place W) := by
  obtain ⟨O, h1, h2, h3⟩ := h
  exact read_any h1 dev place
/-- A plant that may be is made. -/
theorem new_own {w W : World} {v : Value} {zs : List Int} (hb : Below w.heap.size w W) (h : IntsAt W v zs) (hm : mayB zs = true) :
    Calls Try.prog 11 #[v] W fun e w' => ∃ g, e = .returned (.tuple #[.pointer (some ⟨g, 0, none⟩), .int .i64 0]) ∧ Own w g (PS.new (zs.map Int.toNat)) w' := by
  refine (new_any h).mono ?_
  rintro e w' ⟨h1, ⟨h2, _⟩ | ⟨_, g, O, h3, h4, h5⟩⟩
  · rw [hm] at h2; cases h2
  · have := hb.size
    exact ⟨g, h3, O, h4, hb.trans (h1.mono hb.size), fun k hk => by have := h5 k hk; omega⟩
/-- A sector's bytes as a text. -/
def secStr (l : Sec) : ByteArray := ⟨l.toArray⟩
theorem secStr_list (l : Sec) : (secStr l).toList = l := by rw [ByteArray.toList_eq]; simp [secStr]
theorem secStr_size (l : Sec) : (secStr l).size = l.length := by simp [secStr, ByteArray.size]
theorem secStr_add (a b : Sec) : secStr a ++ secStr b = secStr (a ++ b) := by
  apply ByteArray.ext
  simp [secStr, ByteArray.data_append]
theorem secStr_eq (a b : Sec) : ((secStr a).toList == (secStr b).toList) = decide (a = b) := by rw [secStr_list, secStr_list]; by_cases h : a = b <;> simp [h]
theorem conv_sec {W : World} {H : Nat} {l : Sec} {t : TypeId} {fr : Nat × Nat} (h : W.heap[H]? = some (.cells (secA l) t fr)) (o n c : Nat) (hn : o + n ≤ l.length) {x : Sec} (hx : (l.drop o).take n = x) : (convert 22 9 (.slice (some ⟨H, o, none⟩) n c)).run Try.prog W = .ok (.string (secStr x)) W := by
  subst hx
  have e : ((l.drop o).take n).length = n := by rw [List.length_take, List.length_drop]; omega
  have := run_convert_bytes_back (P := Try.prog) W 22 9 5 ⟨H, o, none⟩ c ((l.drop o).take n) Try.underlying22 Try.underlying5 Try.underlying9 (fun j hj => by
    have hadd : (⟨H, o, none⟩ : Addr).add j = ⟨H, o + j, none⟩ := by unfold Addr.add; split <;> simp_all
    rw [hadd, cells_at h]
    have h2 : o + j < l.length := by omega
    simp [secA, u8v, h2])
  rwa [e] at this
theorem exec_convert {P : Program} {w : World} {o : Oper} {a : Act} (s d : TypeId) (x : Operand) (ho : o.op = .convert s d x) (V v : Value) (hx : a.eval x = V) (hr : (convert s d V).run P w = .ok v w) : (execOp a.eval o).run P w = .ok (.value v) w := by
  unfold execOp
  simp only [ho, hx, Sem.run_bind, hr, Result.andThen_ok, Sem.run_pure]
end Go.Proofs.Ytpnijopbbbgffaa.plantw
