/- Walks of layer 3: Read. Conditions: as each theorem says. -/
import Derived.Test.YtpnijopbbbgffaaPlantM
namespace Go.Proofs.Ytpnijopbbbgffaa.plantw
open Go.RowKit
open Go.Proofs.Ytpnijopbbbgffaa.plantp
open Go.Proofs.Ytpnijopbbbgffaa.buf
set_option maxHeartbeats 2000000 in
set_option maxRecDepth 100000 in
theorem read_in {w : World} {g : Nat} {v0 v1 : Value} {fuse steps : Int} {most ms : List Nat} (h : Blk w g v0 v1 false fuse steps) (hd : Disks w v0 most ms) (i : Nat) (place : Nat) (hi : i < most.length) (hi' : i < ms.length) (hth : thereB most i place = true)
    (s : Sec) (hs : s.length = 64) (hlook : ∀ W : World, W.heap[ms[i]]? = w.heap[ms[i]]? → (Instr.lookup 65 (.map (some ms[i])) (.int .i64 place) false).run Try.prog W = .ok (.agg (secA s)) W) 
    (l : List Wt) (hl64 : ∀ x ∈ l, x.b.length = 64) (hbuf : Buf w 72 66 v1 l.length (l.flatMap wtL)) :
    Calls Try.prog 15 #[.pointer (some ⟨g, 0, none⟩), .int .i64 i, .int .i64 place] w fun e w' => 
      Below w.heap.size w w' ∧ ∃ H, e = .returned (.tuple #[.slice (some ⟨H, 0, none⟩) 64 64, .int .i64 0]) ∧ w.heap.size ≤ H ∧ w'.heap[H]? = some (.cells (secA (lastW i place l s)) 5 (0, 0)) := by
  have HT := Lib.hid (there_any h hd i place)
  rw [hth] at HT
  obtain ⟨pw, cw, rfl, hn, hcw⟩ := hbuf.shape
  have HR := Lib.hid hbuf
  have HH := Lib.hid h
  obtain ⟨⟨c0, c1, c2, c3, c4⟩, _⟩ := h.cells
  clear h
  obtain ⟨hml, dk, cd, rfl, hcd, hcells⟩ := hd
  obtain ⟨k0, k1⟩ := hcells i hi (by omega)
  have hl := hlook w rfl
  generalize ms[i] = m at k1 hl
  have h3 : (i : Int) < (most.length : Int) := by omega
  have h4 : 0 ≤ (i : Int) := by omega
  clear hml hcells k0 hlook
  unfold maxLen at hcw
  have ss := secA_size s
  rw [hs] at ss
  have hst := store70_new (w := w) (secA s) ss (secA_one s)
  have HS := Lib.hid ss
  have HS0 := Lib.hid hs
  clear ss hs hbuf
  go_enter Try.func15, Try.ntmps15
  go_wp2_with fail
  refine HT.out.mono ?_
  rintro e w1 ⟨rfl, rfl⟩
  have hlt : g < w1.heap.size := World.block_lt_of_cell? w1 _ c1
  have c1' : (w1.alloc (.cells (secA s) 70)).cell? ⟨g, 1, none⟩ = some (.slice pw l.length cw) := (((Below.refl w1.heap.size w1).alloc (Nat.le_refl _) _).cell hlt).trans c1
  go_wp2_with fail
  clear c0 c1 c2 c3 c4 c1' hst hl
  go_loopw [38] (fun k wr => ∃ j : Nat, j ≤ l.length ∧ k = .int .i64 j ∧ wr.heap[w1.heap.size]? = some (.cells (secA (lastW i place (l.take j) s)) 70 (0, 0)) ∧ Below w1.heap.size w1 wr ∧ w1.heap.size < wr.heap.size) (fun k _ => l.length - (intOf k).toNat)
  case atStart => exact ⟨0, by omega, rfl, by rw [List.take_zero]; exact heap_alloc_last _ _, (Below.refl _ _).alloc (Nat.le_refl _) _, by simp⟩
  case round =>
    obtain ⟨j, hj, rfl, hB, hbel, hsz⟩ := hrel
    have HB := Lib.hid hB
    clear hB
    by_cases hlt2 : j < l.length
    · obtain ⟨wk, cap, hv, hbk, hn', hcw', hld⟩ := Buf.load (HR.out.kept (w' := wr) fun k hk => hbel.block k (HR.out.lt k hk)) hl64 j hlt2
      obtain ⟨rfl, rfl⟩ : pw = some ⟨wk, 0, none⟩ ∧ cw = cap := by simpa using hv
      clear hbk hn' hcw' hv
      have hx := hl64 l[j] (by simp)
      have hst := store72_new (w := wr) (wtA l[j]) (wtA_size _ hx) (wtA_one _)
      obtain ⟨q0, q1, q2⟩ := wt_cells (w := wr.alloc (.cells (wtA l[j]) 72)) (g := wr.heap.size) (heap_alloc_last _ _) hx
      have HQ := Lib.hid hx
      clear hx
      have hz := zero72 wr
      have sz1 := wtA_size l[j] HQ.out
      have sz2 : (secA l[j].b).size = 64 := by rw [secA_size, HQ.out]
      have ht := Lib.hid (List.take_succ_eq_append_getElem hlt2)
      have hL := Lib.hid (lastW_append i place s (l.take j) [l[j]])
      have hbel2 : Below w1.heap.size w1 (wr.alloc (.cells (wtA l[j]) 72)) := hbel.alloc hbel.size _
      have hB2 : Hid ((wr.alloc (.cells (wtA l[j]) 72)).heap[w1.heap.size]? = some (.cells (secA (lastW i place (l.take j) s)) 70 (0, 0))) := (Below.heap_alloc wr _ _ hsz).trans HB.out
      have hlen : Hid ((lastW i place (l.take j) s).length = 64) := lastW_len i place _ _ HS0.out fun x hx => hl64 x (List.mem_of_mem_take hx)
      by_cases e1 : (l[j].dev : Int) = (i : Int)
      · have b1 : ((l[j].dev : Int) == (i : Int)) = true := by simpa using e1
        by_cases e2 : (l[j].place : Int) = (place : Int)
        · have b2 : ((l[j].place : Int) == (place : Int)) = true := by simpa using e2
          have hst2 := run_storeRow (P := Try.prog) (wr.alloc (.cells (wtA l[j]) 72)) w1.heap.size _ _ (secA l[j].b) hB2.out (by rw [secA_size, secA_size, HQ.out, hlen.out]) (secA_one _)
          have hB3 := Lib.hid (setRow_block (cs' := secA l[j].b) hB2.out)
          have E1 := Lib.hid e1
          have E2 := Lib.hid e2
          clear e1 e2
          go_wp2_with (first | (with_reducible refine wpList_load_at rfl 72 (.tmp 40) rfl _ rfl _ hld ?_) | (with_reducible refine wpList_load_at rfl 70 (.tmp 52) rfl _ rfl _ q2 ?_))
          go_roundw
          case rel => exact ⟨j + 1, by omega, by go_num, by rw [ht.out, hL.out, lastW, lastW, if_pos ⟨by have := E1.out; omega, by have := E2.out; omega⟩]; exact hB3.out, hbel2.trans ⟨rfl, rfl, rfl, by simp, fun k hk => setRow_other _ _ k _ (by omega)⟩, by simp; omega⟩
          case measure => simp [intOf]; omega
        · have b2 : ((l[j].place : Int) == (place : Int)) = false := by simpa using e2
          have E2 := Lib.hid e2
          have E1 := Lib.hid e1
          clear e1 e2
          go_wp2_with (first | (with_reducible refine wpList_load_at rfl 72 (.tmp 40) rfl _ rfl _ hld ?_))
          go_roundw
          case rel => exact ⟨j + 1, by omega, by go_num, by rw [ht.out, hL.out, lastW, lastW, if_neg (fun h => E2.out (by rw [h.2]))]; exact hB2.out, hbel2, by simp; omega⟩
          case measure => simp [intOf]; omega
      · have b1 : ((l[j].dev : Int) == (i : Int)) = false := by simpa using e1
        have E1 := Lib.hid e1
        clear e1
        go_wp2_with (first | (with_reducible refine wpList_load_at rfl 72 (.tmp 40) rfl _ rfl _ hld ?_))
        go_roundw
        case rel => exact ⟨j + 1, by omega, by go_num, by rw [ht.out, hL.out, lastW, lastW, if_neg (fun h => E1.out (by rw [h.1]))]; exact hB2.out, hbel2, by simp; omega⟩
        case measure => simp [intOf]; omega
    · obtain rfl : j = l.length := by omega
      have hB4 : Hid (wr.heap[w1.heap.size]? = some (.cells (secA (lastW i place l s)) 70 (0, 0))) := by have := HB.out; rwa [List.take_length] at this
      have hlen : (lastW i place l s).length = 64 := lastW_len i place _ _ HS0.out hl64
      clear HB
      have hmk := make64 wr
      have hcp := copy64 (w := wr.alloc (.cells zb64 5)) (g := wr.heap.size) (b := w1.heap.size) (s := lastW i place l s) (heap_alloc_last _ _) rfl hlen (fun j v hv => by rw [cells_at ((Below.heap_alloc wr _ _ hsz).trans hB4.out)]; exact hv) 64 64
      have HL := Lib.hid hlen
      clear hlen
      go_wp2_with fail
      go_ret2
      refine ⟨hbel.trans ⟨rfl, rfl, rfl, by simp, fun k hk => (setRow_other _ _ k _ (by omega)).trans (Below.heap_alloc _ _ _ (by omega))⟩, wr.heap.size, rfl, by omega, ?_⟩
      exact setRow_block (heap_alloc_last _ _)
theorem zero70 (w : World) : (zeroValue 70).run Try.prog w = .ok (secE.enc zeroS) w := (zero_of_info (P := Try.prog) (t := 70) (v := .agg (secA zeroS)) (n := 64) (by kernel_rfl)).1 w
theorem key_int (k : Nat) (hk : k ≤ 65536) : Go.keyOf Try.prog 3 (.int .i64 (k : Int)) = some (.int .i64 (k : Int)) :=
  Go.Maps.keyOf_int_mk Try.underlying3 (by simp [Lit.wf, IntKind.min, IntKind.max, IntKind.bits, IntKind.signed]; omega)
theorem keyed_int : Go.Maps.Keyed Try.prog 3 := Go.Maps.int_keyed Try.underlying3
theorem PS.there_iff {p : PS} {dev place : Int} (h : p.thereB dev place = true) : ∃ d k : Nat, dev = d ∧ place = k ∧ ∃ hd : d < p.most.length, k < p.most[d] := by
  unfold PS.thereB at h
  obtain ⟨h1, h2, h3, h4⟩ := of_decide_eq_true h
  obtain ⟨d, rfl⟩ : ∃ d : Nat, dev = d := ⟨dev.toNat, by omega⟩
  obtain ⟨k, rfl⟩ : ∃ k : Nat, place = k := ⟨place.toNat, by omega⟩
  have hd : d < p.most.length := by omega
  refine ⟨d, k, rfl, rfl, hd, ?_⟩
  simp [hd] at h4
  omega
theorem zero_len : zeroS.length = 64 := by simp [zeroS]
/-- What Read leaves: refused; or a row of its own. -/
def ReadAt (p : PS) (dev place : Int) (w : World) (e : Ending) (w' : World) : Prop :=
  Below w.heap.size w w' ∧ ((p.readE dev place ≠ 0 ∧ e = .returned (.tuple #[.slice none 0 0, .int .i64 (p.readE dev place)])) ∨
    (p.readE dev place = 0 ∧ ∃ H, e = .returned (.tuple #[.slice (some ⟨H, 0, none⟩) 64 64, .int .i64 0]) ∧ w.heap.size ≤ H ∧ w'.heap[H]? = some (.cells (secA (p.sec dev.toNat place.toNat)) 5 (0, 0))))
theorem disks_of {w : World} {dk cd : Nat} {D : Array Value} {most ms : List Nat} (h1 : w.heap[dk]? = some (.cells D 67 (0, 0))) (h2 : most.length ≤ cd) (h3 : ms.length = most.length)
    (h4 : ∀ i (h : i < most.length) (h' : i < ms.length), D[i * 2]? = some (.int .i64 most[i]) ∧ D[i * 2 + 1]? = some (.map (some ms[i]))) : Disks w (.slice (some ⟨dk, 0, none⟩) most.length cd) most ms :=
  ⟨h3.symm, dk, cd, rfl, h2, fun i h h' => by rw [cells_at h1, cells_at h1]; exact h4 i h h'⟩
theorem read_any {w : World} {g : Nat} {p : PS} {O : List Nat} (h : IsP w g p O) (dev place : Int) :
    Calls Try.prog 15 #[.pointer (some ⟨g, 0, none⟩), .int .i64 dev, .int .i64 place] w (ReadAt p dev place w) := by
  obtain ⟨hok, dk, cd, D, v1, ms, h1, h2, h3, h4, h5, h6, h7, h8, rfl, h10⟩ := h
  have hD := disks_of h4 h2 h6 (fun i h h' => ⟨(h7 i h h').1, (h7 i h h').2.1⟩)
  by_cases ho : p.off = true
  · have he : p.readE dev place = 2 := by simp [PS.readE, ho]
    rw [ho] at h1
    obtain ⟨⟨c0, c1, c2, c3, c4⟩, _⟩ := h1.cells
    have HE := Lib.hid he
    clear he ho h1
    go_enter Try.func15, Try.ntmps15
    go_wp2_with fail
    go_ret2
    exact ⟨Below.refl _ _, .inl (by rw [HE.out]; exact ⟨by decide, rfl⟩)⟩
  · have ho' : p.off = false := by simpa using ho
    rw [ho'] at h1
    have HT := there_any h1 hD dev place
    by_cases ht : p.thereB dev place = true
    · have he : p.readE dev place = 0 := by simp [PS.readE, ho', ht]
      obtain ⟨d, k, rfl, rfl, hd, hk⟩ := PS.there_iff ht
      obtain ⟨a1, a2, s, f, a3, a4, a5⟩ := h7 d hd (by omega)
      have hmk := hok.most _ (List.getElem_mem hd)
      refine (read_in h1 hD d k hd (by omega) (by simpa [thereB, PS.thereB] using ht) (p.has d k) (hok.sec d k) (fun W hW => ?_) p.waits (fun x hx => (hok.wait x hx).1) h8).mono ?_
      · have := (a3.block hW).look (t := 65) keyed_int Try.underlying65 (zero70 W) (key_int k (by omega))
        rw [a5 k hk] at this
        exact this
      · rintro e w' ⟨hb, H, rfl, hH, hc⟩
        exact ⟨hb, .inr ⟨he, H, rfl, hH, by simpa [PS.sec] using hc⟩⟩
    · have he : p.readE dev place = 31 := by simp [PS.readE, ho', ht]
      have ht' : thereB p.most dev place = false := by simpa [thereB, PS.thereB] using ht
      rw [ht'] at HT
      obtain ⟨⟨c0, c1, c2, c3, c4⟩, _⟩ := h1.cells
      have HE := Lib.hid he
      have HT' := Lib.hid HT
      clear he ho ho' h1 HT hD h7
      go_enter Try.func15, Try.ntmps15
      go_wp2_with fail
      refine HT'.out.mono ?_
      rintro e w1 ⟨rfl, rfl⟩
      go_wp2_with fail
      go_ret2
      exact ⟨Below.refl _ _, .inl (by rw [HE.out]; exact ⟨by decide, rfl⟩)⟩
end Go.Proofs.Ytpnijopbbbgffaa.plantw
