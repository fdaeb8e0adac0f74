/- Layer 3 in plain words: what is kept of writes behind a boot. No program in sight. Conditions: as each theorem says. -/
import Derived.Test.YtpnijopbbbgffaaPlantP
namespace Go.Proofs.Ytpnijopbbbgffaa.plantp
def oneS (c : UInt8) : Sec := List.replicate 64 c
def Halves (a b : UInt8) : Sec := List.replicate 32 a ++ List.replicate 32 b
theorem oneS_halves (c : UInt8) : oneS c = Halves c c := by simp [oneS, Halves]
theorem oneS_len (c : UInt8) : (oneS c).length = 64 := by simp [oneS]
theorem mix_halves (k : Int) (a b c : UInt8) : ∃ x y, mix k (Halves a b) (oneS c) = Halves x y ∧ (x = a ∨ x = c) ∧ (y = b ∨ y = c) := by
  have e1 : (oneS c).take 32 = List.replicate 32 c := by simp [oneS]
  have e2 : (oneS c).drop 32 = List.replicate 32 c := by simp [oneS]
  have e3 : (Halves a b).take 32 = List.replicate 32 a := by simp [Halves]
  have e4 : (Halves a b).drop 32 = List.replicate 32 b := by simp [Halves]
  unfold mix
  split
  · exact ⟨c, c, oneS_halves c, .inr rfl, .inr rfl⟩
  · split
    · exact ⟨c, b, by rw [e1, e4]; rfl, .inr rfl, .inl rfl⟩
    · split
      · exact ⟨a, c, by rw [e2, e3]; rfl, .inl rfl, .inr rfl⟩
      · exact ⟨a, b, rfl, .inl rfl, .inl rfl⟩
/-- What a half of a sector may be. -/
def May (old : UInt8) (l : List UInt8) (n s : Nat) (c : UInt8) : Prop := c = old ∨ ∃ i, i < n ∧ (3 * i) % 16 = s ∧ c = l.getD i 0
def laterW (l : List UInt8) (i : Nat) : Wt := ⟨0, (3 * i) % 16, oneS (l.getD i 0)⟩
theorem keeps_boot (keep : List Int) (l : List UInt8) (has : Nat → Nat → Sec) (s : Nat) (old : UInt8) (h : has 0 s = oneS old) : ∀ n, ∃ a b, bootAll keep 0 ((List.range n).map (laterW l)) has 0 s = Halves a b ∧ May old l n s a ∧ May old l n s b
  | 0 => ⟨old, old, by rw [← oneS_halves]; exact h, .inl rfl, .inl rfl⟩
  | n + 1 => by
    obtain ⟨a, b, e, ha, hb⟩ := keeps_boot keep l has s old h n
    have up : ∀ c, May old l n s c → May old l (n + 1) s c := by
      rintro c (h | ⟨i, h1, h2⟩)
      · exact .inl h
      · exact .inr ⟨i, by omega, h2⟩
    rw [List.range_succ, List.map_append, List.map_cons, List.map_nil, bootAll_snoc]
    simp only [laterW]
    by_cases c : s = (3 * n) % 16
    · rw [if_pos ⟨trivial, c⟩]
      have e' : bootAll keep 0 ((List.range n).map (laterW l)) has 0 ((3 * n) % 16) = Halves a b := by rw [← c]; exact e
      rw [e']
      obtain ⟨x, y, e1, e2, e3⟩ := mix_halves (keepAt keep (0 + ((List.range n).map (laterW l)).length)) a b (l.getD n 0)
      refine ⟨x, y, e1, ?_, ?_⟩
      · rcases e2 with rfl | rfl
        · exact up _ ha
        · exact .inr ⟨n, by omega, c.symm, rfl⟩
      · rcases e3 with rfl | rfl
        · exact up _ hb
        · exact .inr ⟨n, by omega, c.symm, rfl⟩
    · rw [if_neg (fun h => c h.2)]
      exact ⟨a, b, e, up _ ha, up _ hb⟩
/-- Written first, k of them. -/
structure First (k : Nat) (old : Sec) (p : PS) : Prop where
  most : p.most = [16]
  off : p.off = false
  fuse : p.fuse = -1
  steps : p.steps = k
  dev : ∀ x ∈ p.waits, x.dev = 0
  len : old.length = 16
  sec : ∀ s, s < 16 → p.sec 0 s = oneS (old.getD s 0)
theorem First.start : First 0 (List.replicate 16 0) (PS.new [16]) := by
  refine ⟨rfl, rfl, rfl, rfl, by simp [PS.new], rfl, fun s hs => ?_⟩
  have : ∀ s, s < 16 → (List.replicate 16 (0 : UInt8)).getD s 0 = 0 := by decide
  have := this s hs
  rw [this]
  rfl
theorem thereB_16 {p : PS} (h : p.most = [16]) (k : Nat) (hk : k < 16) : p.thereB 0 (k : Int) = true := by
  simp [PS.thereB, h]
  omega
theorem PS.write_ok' {p : PS} {d k : Nat} {s : Sec} (ho : p.off = false) (ht : p.thereB d k = true) (hl : s.length = 64) (hf : p.fuse = -1) : p.write d k s = (PS.wait { p with steps := p.steps + 1 } d k s, 0) := by
  have h1 : p.step.1 = { p with steps := p.steps + 1 } := by simp [PS.step, hf]
  have h2 : ¬ p.fuse = 0 := by omega
  simp [PS.write, ho, ht, hl, h2, h1]
theorem First.write {k : Nat} {old : Sec} {p : PS} (h : First k old p) (x : UInt8) : ∃ q, p.write 0 ((k % 16 : Nat) : Int) (oneS x) = (q, 0) ∧ First (k + 1) (old.set (k % 16) x) q := by
  have hk : k % 16 < 16 := Nat.mod_lt _ (by omega)
  refine ⟨_, PS.write_ok' h.off (thereB_16 h.most _ hk) (oneS_len x) h.fuse, h.most, h.off, h.fuse, ?_, ?_, ?_, fun s hs => ?_⟩
  · show p.steps + 1 = _
    rw [h.steps]; omega
  · intro y hy
    rcases List.mem_append.1 (show y ∈ p.waits ++ [_] from hy) with hy | hy
    · exact h.dev y hy
    · obtain rfl := List.mem_singleton.1 hy
      rfl
  · rw [List.length_set]; exact h.len
  · rw [sec_wait]
    by_cases c : k % 16 = s
    · rw [if_pos ⟨rfl, c⟩, c]
      have : (old.set s x).getD s 0 = x := by
        simp [List.getD_eq_getElem?_getD, h.len, hs]
      rw [this]
    · rw [if_neg (fun h => c h.2)]
      have : (old.set (k % 16) x).getD s 0 = old.getD s 0 := by
        simp [List.getD_eq_getElem?_getD, c]
      rw [this]
      exact h.sec s hs
/-- Flushed, and n more written, that wait. -/
structure Later (l : List UInt8) (m n : Nat) (old : Sec) (p : PS) : Prop where
  most : p.most = [16]
  off : p.off = false
  fuse : p.fuse = -1
  steps : p.steps = m + 1 + n
  waits : p.waits = (List.range n).map (laterW l)
  has : ∀ s, s < 16 → p.has 0 s = oneS (old.getD s 0)
theorem First.flush {k : Nat} {old : Sec} {p : PS} (l : List UInt8) (h : First k old p) : ∃ q, p.flushAt 0 = (q, 0) ∧ Later l k 0 old q := by
  have h1 : p.step.1 = { p with steps := p.steps + 1 } := by simp [PS.step, h.fuse]
  have h2 : ¬ p.fuse = 0 := by have := h.fuse; omega
  have hw : (PS.flush { p with steps := p.steps + 1 } 0).waits = [] := by
    simp only [PS.flush, List.filter_eq_nil_iff]
    intro x hx
    simp [h.dev x hx]
  refine ⟨PS.flush { p with steps := p.steps + 1 } 0, ?_, h.most, h.off, h.fuse, ?_, hw, fun s hs => ?_⟩
  · have h3 : ¬ ((0 : Int) < 0 ∨ (p.most.length : Int) ≤ 0) := by rw [h.most]; simp
    simp only [PS.flushAt, h.off, if_neg h3, if_neg h2, h1]
    simp
  · show p.steps + 1 = _
    rw [h.steps]; omega
  · have := sec_flush { p with steps := p.steps + 1 } 0 0 s
    rw [PS.sec, hw] at this
    exact this.trans (h.sec s hs)
theorem Later.write {l : List UInt8} {m n : Nat} {old : Sec} {p : PS} (h : Later l m n old p) : ∃ q, p.write 0 (((3 * n) % 16 : Nat) : Int) (oneS (l.getD n 0)) = (q, 0) ∧ Later l m (n + 1) old q := by
  have hk : (3 * n) % 16 < 16 := Nat.mod_lt _ (by omega)
  refine ⟨_, PS.write_ok' h.off (thereB_16 h.most _ hk) (oneS_len _) h.fuse, h.most, h.off, h.fuse, ?_, ?_, h.has⟩
  · show p.steps + 1 = _
    rw [h.steps]; omega
  · show p.waits ++ [_] = _
    rw [h.waits, List.range_succ, List.map_append]
    rfl
theorem Later.boot {l : List UInt8} {m n : Nat} {old : Sec} {p : PS} (h : Later l m n old p) (keep : List Int) (s : Nat) (hs : s < 16) : (p.boot keep).readE 0 s = 0 ∧ ∃ a b, (p.boot keep).sec 0 s = Halves a b ∧ May (old.getD s 0) l n s a ∧ May (old.getD s 0) l n s b := by
  refine ⟨?_, ?_⟩
  · have : (p.boot keep).thereB 0 s = true := thereB_16 h.most s hs
    simp [PS.readE, this]
    rfl
  · show ∃ a b, bootAll keep 0 p.waits p.has 0 s = Halves a b ∧ _
    rw [h.waits]
    exact keeps_boot keep l p.has s _ (h.has s hs) n
theorem Later.bootNone {l : List UInt8} {m n : Nat} {old : Sec} {p : PS} (h : Later l m n old p) (s : Nat) (hs : s < 16) : (p.boot []).sec 0 s = oneS (old.getD s 0) := by
  show bootAll [] 0 p.waits p.has 0 s = _
  rw [boot_none]
  exact h.has s hs
/-- The law's own look at what a half may be. -/
def mayK (old : UInt8) (l : List UInt8) (s : Nat) (c : UInt8) (k : Nat) : Bool := (c == old) || (List.range k).any (fun i => ((3 * i) % 16 == s) && (c == l.getD i 0))
theorem mayK_all {old : UInt8} {l : List UInt8} {s : Nat} {c : UInt8} {k : Nat} (h : May old l k s c) : mayK old l s c k = true := by
  unfold mayK
  rcases h with rfl | ⟨i, h1, h2, rfl⟩
  · simp
  · rw [Bool.or_eq_true, List.any_eq_true]
    exact .inr ⟨i, by simp [h1], by simp [h2]⟩
theorem mayK_next (old : UInt8) (l : List UInt8) (s : Nat) (c : UInt8) (k : Nat) : mayK old l s c (k + 1) = (mayK old l s c k || (((3 * k) % 16 == s) && (c == l.getD k 0))) := by
  unfold mayK
  rw [List.range_succ, List.any_append, Bool.or_assoc]
  simp
end Go.Proofs.Ytpnijopbbbgffaa.plantp
