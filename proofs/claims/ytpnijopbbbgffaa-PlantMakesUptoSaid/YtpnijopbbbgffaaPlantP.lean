/- Layer 3 in plain words: disks, what waits, the power. No program in sight. (Both the code's plant and the reference's are told by this one state.) -/
import Derived.KernelRfl
namespace Go.Proofs.Ytpnijopbbbgffaa.plantp
/-- A sector's bytes (64 of them). -/
abbrev Sec := List UInt8
def zeroS : Sec := List.replicate 64 0
/-- A write that waits. -/
structure Wt where
  dev : Nat
  place : Nat
  b : Sec
/-- What a plant is, whoever keeps it: how many sectors each disk has; what each has for good; what waits; is the power off; the fuse (-1: none); the steps done. -/
structure PS where
  most : List Nat
  has : Nat → Nat → Sec
  waits : List Wt
  off : Bool
  fuse : Int
  steps : Int
def PS.there (p : PS) (dev place : Int) : Prop := 0 ≤ dev ∧ 0 ≤ place ∧ ∃ n, p.most[dev.toNat]? = some n ∧ place < (n : Int)
/-- What waits last for a sector; else what was there. -/
def lastW (d k : Nat) : List Wt → Sec → Sec
  | [], b => b
  | w :: l, b => lastW d k l (if w.dev = d ∧ w.place = k then w.b else b)
def PS.sec (p : PS) (d k : Nat) : Sec := lastW d k p.waits (p.has d k)
def PS.new (l : List Nat) : PS := { most := l, has := fun _ _ => zeroS, waits := [], off := false, fuse := -1, steps := 0 }
/-- A step; false: the power went off at it. -/
def PS.step (p : PS) : PS × Bool :=
  if p.fuse = 0 then ({ p with off := true, fuse := -1 }, false)
  else ({ p with fuse := if 0 < p.fuse then p.fuse - 1 else p.fuse, steps := p.steps + 1 }, true)
def PS.wait (p : PS) (d k : Nat) (b : Sec) : PS := { p with waits := p.waits ++ [⟨d, k, b⟩] }
/-- What a row of writes leaves for good. -/
def putAll (keep : Wt → Bool) : List Wt → (Nat → Nat → Sec) → Nat → Nat → Sec
  | [], h => h
  | w :: l, h => putAll keep l (if keep w then (fun d k => if d = w.dev ∧ k = w.place then w.b else h d k) else h)
def PS.flush (p : PS) (d : Nat) : PS := { p with has := putAll (fun w => w.dev == d) p.waits p.has, waits := p.waits.filter (fun w => w.dev != d) }
def PS.fuseAt (p : PS) (n : Int) : PS := if p.off then p else { p with fuse := max n (-1) }
/-- What of a write is kept, whole or by halves. -/
def mix (k : Int) (old b : Sec) : Sec :=
  if k = 1 then b else if k = 2 then b.take 32 ++ old.drop 32 else if k = 3 then old.take 32 ++ b.drop 32 else old
def keepAt (keep : List Int) (i : Nat) : Int := if keep.length = 0 then 0 else (keep.getD (i % keep.length) 0) % 4
def bootAll (keep : List Int) : Nat → List Wt → (Nat → Nat → Sec) → Nat → Nat → Sec
  | _, [], h => h
  | i, w :: l, h => bootAll keep (i + 1) l (fun d k => if d = w.dev ∧ k = w.place then mix (keepAt keep i) (h w.dev w.place) w.b else h d k)
def PS.boot (p : PS) (keep : List Int) : PS := { p with has := bootAll keep 0 p.waits p.has, waits := [], off := false, fuse := -1 }

/-- A plant as it may be. -/
structure PS.Ok (p : PS) : Prop where
  disks : 1 ≤ p.most.length ∧ p.most.length ≤ 4
  most : ∀ n ∈ p.most, 1 ≤ n ∧ n ≤ 65536
  sec : ∀ d k, (p.has d k).length = 64
  wait : ∀ x ∈ p.waits, x.b.length = 64 ∧ ∃ n, p.most[x.dev]? = some n ∧ x.place < n
  fuse : -1 ≤ p.fuse ∧ p.fuse ≤ 9223372036854775807
  steps : 0 ≤ p.steps
def PS.thereB (p : PS) (dev place : Int) : Bool := decide (0 ≤ dev ∧ dev < (p.most.length : Int) ∧ 0 ≤ place ∧ place < (p.most.getD dev.toNat 0 : Nat))
/-- What a call answers: 0: all right; 2: the power is off; 31: no such place; 32: not so many bytes. -/
def PS.readE (p : PS) (dev place : Int) : Int := if p.off then 2 else if p.thereB dev place then 0 else 31
def PS.write (p : PS) (dev place : Int) (b : Sec) : PS × Int :=
  if p.off then (p, 2) else if p.thereB dev place = false then (p, 31) else if b.length ≠ 64 then (p, 32)
  else if p.fuse = 0 then (p.step.1, 2) else (p.step.1.wait dev.toNat place.toNat b, 0)
def PS.flushAt (p : PS) (dev : Int) : PS × Int :=
  if p.off then (p, 2) else if dev < 0 ∨ (p.most.length : Int) ≤ dev then (p, 31)
  else if p.fuse = 0 then (p.step.1, 2) else (p.step.1.flush dev.toNat, 0)
theorem lastW_append (d k : Nat) (b : Sec) : ∀ (l m : List Wt), lastW d k (l ++ m) b = lastW d k m (lastW d k l b)
  | [], _ => rfl
  | w :: l, m => by simp only [List.cons_append, lastW]; exact lastW_append d k _ l m
theorem lastW_len (d k : Nat) : ∀ (l : List Wt) (b : Sec), b.length = 64 → (∀ x ∈ l, x.b.length = 64) → (lastW d k l b).length = 64
  | [], _, h, _ => h
  | w :: l, b, h, hl => by
    rw [lastW]
    refine lastW_len d k l _ ?_ fun x hx => hl x (by simp [hx])
    split
    · exact hl w (by simp)
    · exact h
theorem sec_wait (p : PS) (d k d' k' : Nat) (b : Sec) : (p.wait d' k' b).sec d k = if d' = d ∧ k' = k then b else p.sec d k := by
  unfold PS.sec PS.wait
  rw [lastW_append]
  rfl
theorem putAll_at (keep : Wt → Bool) (d k : Nat) : ∀ (l : List Wt) (h : Nat → Nat → Sec), putAll keep l h d k = lastW d k (l.filter keep) (h d k)
  | [], _ => rfl
  | w :: l, h => by
    rw [putAll, putAll_at keep d k l]
    by_cases hk : keep w = true
    · rw [List.filter_cons_of_pos hk, lastW, if_pos hk]
      by_cases e : d = w.dev ∧ k = w.place
      · rw [if_pos e, if_pos ⟨e.1.symm, e.2.symm⟩]
      · rw [if_neg e, if_neg (fun h => e ⟨h.1.symm, h.2.symm⟩)]
    · rw [List.filter_cons_of_neg hk, if_neg hk]
theorem lastW_skip (d k : Nat) : ∀ (l : List Wt) (b : Sec), (∀ w ∈ l, w.dev ≠ d) → lastW d k l b = b
  | [], _, _ => rfl
  | w :: l, b, h => by
    rw [lastW, if_neg (fun e => h w (by simp) e.1)]
    exact lastW_skip d k l b (fun x hx => h x (by simp [hx]))
theorem lastW_dev (d k : Nat) : ∀ (l : List Wt) (b : Sec), lastW d k (l.filter (fun w => w.dev == d)) b = lastW d k l b
  | [], _ => rfl
  | w :: l, b => by
    by_cases e : w.dev = d
    · rw [List.filter_cons_of_pos (by simpa using e), lastW, lastW, lastW_dev d k l]
    · rw [List.filter_cons_of_neg (by simpa using e), lastW, if_neg (fun h => e h.1), lastW_dev d k l]
theorem lastW_other (d d' k : Nat) (hd : d' ≠ d) : ∀ (l : List Wt) (b : Sec), lastW d' k (l.filter (fun w => w.dev != d)) b = lastW d' k l b
  | [], _ => rfl
  | w :: l, b => by
    by_cases e : w.dev = d
    · rw [List.filter_cons_of_neg (by simp [e]), lastW, if_neg (fun h => hd (by omega)), lastW_other d d' k hd l]
    · rw [List.filter_cons_of_pos (by simpa using e), lastW, lastW, lastW_other d d' k hd l]
/-- A flush changes nothing of what is read. -/
theorem sec_flush (p : PS) (d d' k : Nat) : (p.flush d).sec d' k = p.sec d' k := by
  unfold PS.sec PS.flush
  simp only
  rw [putAll_at]
  by_cases e : d' = d
  · subst e
    rw [lastW_dev]
    refine lastW_skip _ _ _ _ fun w hw => ?_
    have := (List.mem_filter.1 hw).2
    simpa using this
  · rw [lastW_other d d' k e]
    congr 1
    refine lastW_skip _ _ _ _ fun w hw => ?_
    have := (List.mem_filter.1 hw).2
    have h2 : w.dev = d := by simpa using this
    omega
theorem mix_len (k : Int) (a b : Sec) (ha : a.length = 64) (hb : b.length = 64) : (mix k a b).length = 64 := by
  unfold mix
  split
  · exact hb
  · split
    · simp; omega
    · split
      · simp; omega
      · exact ha
theorem bootAll_len (keep : List Int) : ∀ (l : List Wt) (i : Nat) (h : Nat → Nat → Sec), (∀ d k, (h d k).length = 64) → (∀ x ∈ l, x.b.length = 64) → ∀ d k, (bootAll keep i l h d k).length = 64
  | [], _, _, h, _ => h
  | x :: l, i, has, h, hl => by
    rw [bootAll]
    refine bootAll_len keep l _ _ (fun d k => ?_) fun y hy => hl y (by simp [hy])
    show (if d = x.dev ∧ k = x.place then mix (keepAt keep i) (has x.dev x.place) x.b else has d k).length = 64
    split
    · exact mix_len _ _ _ (h _ _) (hl x (by simp))
    · exact h d k
theorem bootAll_snoc (keep : List Int) (x : Wt) : ∀ (l : List Wt) (i : Nat) (h : Nat → Nat → Sec), bootAll keep i (l ++ [x]) h = fun d k => if d = x.dev ∧ k = x.place then mix (keepAt keep (i + l.length)) (bootAll keep i l h x.dev x.place) x.b else bootAll keep i l h d k
  | [], _, _ => rfl
  | y :: l, i, h => by
    rw [List.cons_append, bootAll, bootAll_snoc keep x l]
    simp only [List.length_cons, bootAll, show i + 1 + l.length = i + (l.length + 1) by omega]
/-- Behind a boot that keeps nothing: what was there for good. -/
theorem boot_none : ∀ (l : List Wt) (i : Nat) (h : Nat → Nat → Sec), bootAll [] i l h = h
  | [], _, _ => rfl
  | w :: l, i, h => by
    have : (fun d k => if d = w.dev ∧ k = w.place then mix (keepAt [] i) (h w.dev w.place) w.b else h d k) = h := by
      funext d k
      by_cases e : d = w.dev ∧ k = w.place
      · obtain ⟨rfl, rfl⟩ := e
        rw [if_pos ⟨rfl, rfl⟩]
        rfl
      · rw [if_neg e]
    rw [bootAll, this]
    exact boot_none l (i + 1) h
/-- A sector for which nothing waits is behind a boot as it was. -/
theorem boot_else (keep : List Int) (d k : Nat) : ∀ (l : List Wt) (i : Nat) (h : Nat → Nat → Sec), (∀ w ∈ l, ¬ (d = w.dev ∧ k = w.place)) → bootAll keep i l h d k = h d k
  | [], _, _, _ => rfl
  | w :: l, i, h, hn => by
    rw [bootAll, boot_else keep d k l (i + 1) _ (fun x hx => hn x (by simp [hx])), if_neg (hn w (by simp))]
/-- Each half of a sector is behind a boot as it was, or as a write that waits gave it. -/
theorem boot_halves (keep : List Int) (d k : Nat) : ∀ (l : List Wt) (i : Nat) (h : Nat → Nat → Sec), (h d k).length = 64 → (∀ w ∈ l, w.b.length = 64) →
    (bootAll keep i l h d k).length = 64 ∧
    ((bootAll keep i l h d k).take 32 = (h d k).take 32 ∨ ∃ w ∈ l, w.dev = d ∧ w.place = k ∧ (bootAll keep i l h d k).take 32 = w.b.take 32) ∧
    ((bootAll keep i l h d k).drop 32 = (h d k).drop 32 ∨ ∃ w ∈ l, w.dev = d ∧ w.place = k ∧ (bootAll keep i l h d k).drop 32 = w.b.drop 32)
  | [], _, h, hl, _ => ⟨hl, .inl rfl, .inl rfl⟩
  | w :: l, i, h, hl, hw => by
    have hb := hw w (by simp)
    by_cases e : d = w.dev ∧ k = w.place
    · have hold : (h w.dev w.place).length = 64 := by rw [← e.1, ← e.2]; exact hl
      have hm : (mix (keepAt keep i) (h w.dev w.place) w.b).length = 64 ∧
          ((mix (keepAt keep i) (h w.dev w.place) w.b).take 32 = (h d k).take 32 ∨ (mix (keepAt keep i) (h w.dev w.place) w.b).take 32 = w.b.take 32) ∧
          ((mix (keepAt keep i) (h w.dev w.place) w.b).drop 32 = (h d k).drop 32 ∨ (mix (keepAt keep i) (h w.dev w.place) w.b).drop 32 = w.b.drop 32) := by
        rw [e.1, e.2]
        have t1 : (List.take 32 w.b).length = 32 := by rw [List.length_take]; omega
        have t2 : (List.take 32 (h w.dev w.place)).length = 32 := by rw [List.length_take]; omega
        unfold mix
        split
        · exact ⟨hb, .inr rfl, .inr rfl⟩
        · split
          · refine ⟨by rw [List.length_append, t1, List.length_drop]; omega, .inr ?_, .inl ?_⟩
            · exact List.take_left' t1
            · exact List.drop_left' t1
          · split
            · refine ⟨by rw [List.length_append, t2, List.length_drop]; omega, .inl ?_, .inr ?_⟩
              · exact List.take_left' t2
              · exact List.drop_left' t2
            · exact ⟨hold, .inl rfl, .inl rfl⟩
      obtain ⟨a1, a2, a3⟩ := boot_halves keep d k l (i + 1) (fun d k => if d = w.dev ∧ k = w.place then mix (keepAt keep i) (h w.dev w.place) w.b else h d k) (by rw [if_pos e]; exact hm.1) (fun x hx => hw x (by simp [hx]))
      simp only [if_pos e] at a2 a3
      rw [bootAll]
      refine ⟨a1, ?_, ?_⟩
      · rcases a2 with a2 | ⟨x, hx, h1, h2, h3⟩
        · rcases hm.2.1 with h | h
          · exact .inl (a2.trans h)
          · exact .inr ⟨w, by simp, e.1.symm, e.2.symm, a2.trans h⟩
        · exact .inr ⟨x, by simp [hx], h1, h2, h3⟩
      · rcases a3 with a3 | ⟨x, hx, h1, h2, h3⟩
        · rcases hm.2.2 with h | h
          · exact .inl (a3.trans h)
          · exact .inr ⟨w, by simp, e.1.symm, e.2.symm, a3.trans h⟩
        · exact .inr ⟨x, by simp [hx], h1, h2, h3⟩
    · obtain ⟨a1, a2, a3⟩ := boot_halves keep d k l (i + 1) (fun d k => if d = w.dev ∧ k = w.place then mix (keepAt keep i) (h w.dev w.place) w.b else h d k) (by rw [if_neg e]; exact hl) (fun x hx => hw x (by simp [hx]))
      simp only [if_neg e] at a2 a3
      rw [bootAll]
      refine ⟨a1, a2.imp id fun ⟨x, hx, h⟩ => ⟨x, by simp [hx], h⟩, a3.imp id fun ⟨x, hx, h⟩ => ⟨x, by simp [hx], h⟩⟩
end Go.Proofs.Ytpnijopbbbgffaa.plantp
