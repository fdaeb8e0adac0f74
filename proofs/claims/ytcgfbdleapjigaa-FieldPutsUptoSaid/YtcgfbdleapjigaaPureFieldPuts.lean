/- Texts are held, and written behind any bytes, as the document says: the law's walk, as the row wants it. No condition but the bulk. -/
import Derived.Test.YtcgfbdleapjigaaOpsFieldPuts
namespace Go.Proofs.Ytcgfbdleapjigaa.Pure
open Go.RowKit Go.Proofs.Ytcgfbdleapjigaa.opens
theorem FieldPuts : opsFieldPuts.Pure2 := by
  intro b f s _ _ hb w A c hC hc
  have hlen : b.length ≤ 1048576 := by
    have : b.length ≤ sumOf (fun _ => 1) b := sumOf_length (fun _ => 1) (fun _ => Nat.le_refl _) b
    omega
  exact fieldw.puts_law f.f0 f.f1 f.f2 s A c b (by omega) hlen w hC hc
end Go.Proofs.Ytcgfbdleapjigaa.Pure
