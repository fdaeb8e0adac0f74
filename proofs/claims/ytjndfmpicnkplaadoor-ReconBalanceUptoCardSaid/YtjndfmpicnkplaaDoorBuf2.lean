/- Rows that grow, more. Conditions: as each theorem says. -/
import Derived.Test.YtjndfmpicnkplaaDoorBuf
namespace Go.Proofs.YtjndfmpicnkplaaDoor.buf
open Go.RowKit
section
variable {P : Program} {w w' : World} {ops : Array Oper} {rest : List Oper} {o : Oper} {a : Act} {K : Act → World → Prop} {Q : Exit → Act → World → Prop} {E : Prop}
/-- Nothing appended. -/
theorem exec_append_no (s x : Operand) (t : TypeId) (ho : o.op = .call { callee := .builtin .append, args := #[s, x], argTypes := #[t, t] }) (e : TypeId) (z : Value) (size bytes : Nat) (ht : P.underlying t = some (.slice e)) (hie : (P.info? e).map (fun i => (i.zero, i.size, i.bytes)) = some (some z, size, bytes))
    {g o' n c : Nat} {q : Option Addr} {c2 : Nat} (hs : a.eval s = .slice (some ⟨g, o', none⟩) n c) (hx : a.eval x = .slice q 0 c2) (hn : n ≤ c) : (execOp a.eval o).run P w = .ok (.value (.slice (some ⟨g, o', none⟩) n c)) w := by
  obtain ⟨i, hi, hz, hsz, hby⟩ := info_parts hie
  unfold execOp
  cases q <;> simp [ho, resolve, invoke, builtin, hs, hx, Builtin.append_, run_underlying ht, sizeOf, typeInfo, hi, Builtin.lenOf, Builtin.firstCells, loadCells, loadCellsFrom, hn, storeCells]
theorem Buf.cellsAt {e size : Nat} {v : Value} {n : Nat} {xs : List Value} (h : Buf w e size v n xs) {g c : Nat} (hv : v = .slice (some ⟨g, 0, none⟩) n c) : ∀ j u, xs[j]? = some u → w.cell? ((⟨g, 0, none⟩ : Addr).add j) = some u := by
  intro j u hu
  obtain ⟨h1, ⟨h2, _⟩ | ⟨g', cap, cur, hv', h3, h4, h5, h6, h7, h8⟩⟩ := h
  · subst h2
    obtain rfl : xs = [] := List.eq_nil_of_length_eq_zero (by simpa using h1)
    simp at hu
  · have hadd : (⟨g, 0, none⟩ : Addr).add j = ⟨g, j, none⟩ := by unfold Addr.add; split <;> simp_all
    obtain rfl : g' = g := by rw [hv] at hv'; simp at hv'; exact hv'.1.symm
    rw [hadd, cells_at h3]
    have hj : j < n * size := by rw [← h1]; exact (List.getElem?_eq_some_iff.1 hu).1
    rw [take_get h8 hj, hu]
end
end Go.Proofs.YtjndfmpicnkplaaDoor.buf
