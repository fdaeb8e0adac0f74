/- Layer 11 in plain words: a table of prefixes. No program in sight. -/
import Derived.KernelRfl
namespace Go.Proofs.YthfncbnokjikfaaDoor.routep
abbrev Key := List UInt8
/-- A table's routes, in the order in which they came; no prefix twice. -/
abbrev Tab := List (Key × List Int)
def get (l : Tab) (k : Key) : Option (List Int) := (l.find? (fun p => p.1 == k)).map (·.2)
def drop (l : Tab) (k : Key) : Tab := l.filter (fun p => p.1 != k)
def add (l : Tab) (k : Key) (to : List Int) : Tab := l ++ [(k, to)]
/-- The longest prefix of at most so many signs. -/
def findN (g : Key → Option (List Int)) (pan : Key) : Nat → Option (List Int)
  | 0 => none
  | n + 1 => match g (pan.take (n + 1)) with
    | some t => some t
    | none => findN g pan n
def find (l : Tab) (pan : Key) : Option (List Int) := findN (get l) pan (min 8 pan.length)
/-- Which rows of members may be. -/
def mayTo (members : Int) : List Int → List Int → Bool
  | _, [] => true
  | seen, m :: r => decide (0 ≤ m ∧ m < members) && !seen.contains m && mayTo members (seen ++ [m]) r
def mayRow (members : Int) (to : List Int) : Bool := mayTo members [] to && decide (to ≠ [])
def digitB (b : UInt8) : Bool := decide (48 ≤ b.toNat ∧ b.toNat ≤ 57)
def mayKey (k : Key) : Bool := decide (k ≠ [] ∧ k.length ≤ 8) && k.all digitB
/-- What Add answers (0: done). -/
def addE (members : Int) (l : Tab) (k : Key) (to : List Int) : Int :=
  if mayKey k = false then 110 else if mayRow members to = false then 112 else if (get l k).isSome = true then 111 else if l.length = 32 then 3 else 0
def addT (members : Int) (l : Tab) (k : Key) (to : List Int) : Tab := if addE members l k to = 0 then add l k to else l

theorem get_add (l : Tab) (k k' : Key) (to : List Int) (h : get l k = none) : get (add l k to) k' = if k' = k then some to else get l k' := by
  unfold get add at *
  rw [List.find?_append]
  by_cases e : k' = k
  · subst e
    rw [if_pos rfl]
    have : l.find? (fun p => p.1 == k') = none := by
      cases hf : l.find? (fun p => p.1 == k') with
      | none => rfl
      | some x => rw [hf] at h; cases h
    rw [this]
    simp
  · rw [if_neg e]
    cases hf : l.find? (fun p => p.1 == k') with
    | none =>
      have : ¬ k = k' := fun h => e h.symm
      simp [this]
    | some x => rfl
theorem get_drop (l : Tab) (k k' : Key) : get (drop l k) k' = if k' = k then none else get l k' := by
  unfold get drop
  induction l with
  | nil => split <;> rfl
  | cons p l ih =>
    by_cases hp : p.1 = k
    · rw [List.filter_cons_of_neg (by simp [hp]), ih]
      by_cases e : k' = k
      · rw [if_pos e, if_pos e]
      · rw [if_neg e, if_neg e, List.find?_cons_of_neg (by simp [hp]; exact fun h => e h.symm)]
    · rw [List.filter_cons_of_pos (by simpa using hp)]
      by_cases e : k' = k
      · rw [if_pos e] at ih ⊢
        rw [List.find?_cons_of_neg (by simp [e, hp]), ih]
      · rw [if_neg e] at ih ⊢
        by_cases e2 : p.1 = k'
        · rw [List.find?_cons_of_pos (by simpa using e2), List.find?_cons_of_pos (by simpa using e2)]
        · rw [List.find?_cons_of_neg (by simpa using e2), List.find?_cons_of_neg (by simpa using e2), ih]
theorem findN_congr {g g' : Key → Option (List Int)} {pan : Key} : ∀ {m : Nat}, (∀ n, 1 ≤ n → n ≤ m → g (pan.take n) = g' (pan.take n)) → findN g pan m = findN g' pan m
  | 0, _ => rfl
  | m + 1, h => by
    rw [findN, findN, h (m + 1) (by omega) (by omega), findN_congr fun n h1 h2 => h n h1 (by omega)]
theorem findN_some {g : Key → Option (List Int)} {pan : Key} : ∀ {m : Nat}, (findN g pan m).isSome = true ↔ ∃ n, 1 ≤ n ∧ n ≤ m ∧ (g (pan.take n)).isSome = true
  | 0 => by
    constructor
    · intro h; cases h
    · rintro ⟨n, h1, h2, _⟩; omega
  | m + 1 => by
    rw [findN]
    cases hg : g (pan.take (m + 1)) with
    | some t => exact ⟨fun _ => ⟨m + 1, by omega, by omega, by rw [hg]; rfl⟩, fun _ => rfl⟩
    | none =>
      simp only
      rw [findN_some]
      constructor
      · rintro ⟨n, h1, h2, h3⟩
        exact ⟨n, h1, by omega, h3⟩
      · rintro ⟨n, h1, h2, h3⟩
        refine ⟨n, h1, ?_, h3⟩
        by_cases e : n = m + 1
        · subst e; rw [hg] at h3; cases h3
        · omega
theorem take_prefix {pan k : Key} {n : Nat} (hn : n ≤ pan.length) (h : pan.take n = k) : n = k.length ∧ k.length ≤ pan.length ∧ pan.take k.length = k := by
  have : k.length = n := by rw [← h, List.length_take]; omega
  exact ⟨this.symm, by omega, by rw [this]; exact h⟩
/-- A prefix that is added changes nothing for a card that does not begin with it. -/
theorem find_add_other {l : Tab} {k pan : Key} {to : List Int} (h : get l k = none) (hb : ¬ (k.length ≤ pan.length ∧ pan.take k.length = k)) : find (add l k to) pan = find l pan := by
  unfold find
  refine findN_congr fun n h1 h2 => ?_
  rw [get_add l k _ to h, if_neg]
  intro e
  obtain ⟨_, a, b⟩ := take_prefix (by omega) e
  exact hb ⟨a, b⟩
/-- A card that begins with it is found. -/
theorem find_add_some {l : Tab} {k pan : Key} {to : List Int} (h : get l k = none) (hk : k ≠ [] ∧ k.length ≤ 8) (hb : k.length ≤ pan.length ∧ pan.take k.length = k) : (find (add l k to) pan).isSome = true := by
  unfold find
  rw [findN_some]
  have : 0 < k.length := List.length_pos_iff.2 hk.1
  exact ⟨k.length, by omega, by omega, by rw [hb.2, get_add l k k to h, if_pos rfl]; rfl⟩
/-- Dropping it undoes that. -/
theorem find_drop_add {l : Tab} {k pan : Key} {to : List Int} (h : get l k = none) : find (drop (add l k to) k) pan = find l pan := by
  unfold find
  refine findN_congr fun n _ _ => ?_
  rw [get_drop]
  by_cases e : pan.take n = k
  · rw [if_pos e, e, h]
  · rw [if_neg e, get_add l k _ to h, if_neg e]
/-- A route is found by its own prefix. -/
theorem find_own {l : Tab} {k : Key} {to : List Int} (h : get l k = some to) (hk : k ≠ [] ∧ k.length ≤ 8) : find l k = some to := by
  unfold find
  have h0 : 0 < k.length := List.length_pos_iff.2 hk.1
  obtain ⟨m, hm⟩ : ∃ m, min 8 k.length = m + 1 := ⟨k.length - 1, by omega⟩
  rw [hm, findN, show m + 1 = k.length by omega, List.take_length, h]
/-- A card is found just if it begins with a prefix of the table. -/
theorem find_some {l : Tab} {pan : Key} (hl : ∀ p ∈ l, p.1 ≠ [] ∧ p.1.length ≤ 8) : (find l pan).isSome = true ↔ ∃ p ∈ l, p.1.length ≤ pan.length ∧ pan.take p.1.length = p.1 := by
  unfold find
  rw [findN_some]
  constructor
  · rintro ⟨n, h1, h2, h3⟩
    unfold get at h3
    cases hf : l.find? (fun p => p.1 == pan.take n) with
    | none => rw [hf] at h3; cases h3
    | some p =>
      have hm := List.mem_of_find?_eq_some hf
      have hp := List.find?_some hf
      have he : pan.take n = p.1 := by simpa using (beq_iff_eq.1 hp).symm
      obtain ⟨_, a, b⟩ := take_prefix (by omega) he
      exact ⟨p, hm, a, b⟩
  · rintro ⟨p, hm, a, b⟩
    obtain ⟨c, d⟩ := hl p hm
    have h0 : 0 < p.1.length := List.length_pos_iff.2 c
    refine ⟨p.1.length, by omega, by omega, ?_⟩
    rw [b]
    unfold get
    cases hf : l.find? (fun q => q.1 == p.1) with
    | none =>
      have := List.find?_eq_none.1 hf p hm
      simp at this
    | some x => rfl
/-- New: the routes one by one, till one is refused. -/
def newR (members : Int) : Tab → Tab → Tab × Int
  | t, [] => (t, 0)
  | t, p :: r => if addE members t p.1 p.2 = 0 then newR members (add t p.1 p.2) r else (t, addE members t p.1 p.2)
def okT (members : Int) (l : Tab) : Prop := (∀ p ∈ l, mayKey p.1 = true ∧ mayRow members p.2 = true) ∧ (l.map (·.1)).Nodup ∧ l.length ≤ 32
theorem get_none {l : Tab} {k : Key} : get l k = none ↔ k ∉ l.map (·.1) := by
  unfold get
  rw [Option.map_eq_none_iff, List.find?_eq_none]
  constructor
  · intro h hm
    obtain ⟨p, hp, e⟩ := List.mem_map.1 hm
    exact h p hp (by simpa using e)
  · intro h p hp e
    exact h (List.mem_map.2 ⟨p, hp, by simpa using e⟩)
theorem addE_zero {members : Int} {l : Tab} {k : Key} {to : List Int} : addE members l k to = 0 ↔ mayKey k = true ∧ mayRow members to = true ∧ get l k = none ∧ l.length ≠ 32 := by
  unfold addE
  cases h1 : mayKey k with
  | false => simp
  | true =>
    cases h2 : mayRow members to with
    | false => simp
    | true =>
      cases h3 : get l k with
      | some x => simp
      | none =>
        by_cases h4 : l.length = 32
        · simp [h4]
        · simp [h4]
theorem newR_ok (members : Int) : ∀ (r t : Tab), okT members t → ((newR members t r).2 = 0 ↔ okT members (t ++ r)) ∧ ((newR members t r).2 = 0 → (newR members t r).1 = t ++ r)
  | [], t, ht => by
    rw [newR, List.append_nil]
    exact ⟨⟨fun _ => ht, fun _ => rfl⟩, fun _ => rfl⟩
  | p :: r, t, ht => by
    rw [newR]
    by_cases h : addE members t p.1 p.2 = 0
    · rw [if_pos h]
      obtain ⟨h1, h2, h3, h4⟩ := addE_zero.1 h
      have hne := get_none.1 h3
      have ht' : okT members (add t p.1 p.2) := by
        refine ⟨?_, ?_, ?_⟩
        · intro q hq
          rcases List.mem_append.1 hq with hq | hq
          · exact ht.1 q hq
          · obtain rfl : q = (p.1, p.2) := by simpa using hq
            exact ⟨h1, h2⟩
        · unfold add
          rw [List.map_append, List.nodup_append]
          refine ⟨ht.2.1, by simp, fun a ha b hb e => ?_⟩
          obtain rfl : b = p.1 := by simpa using hb
          exact hne (e ▸ ha)
        · have := ht.2.2
          unfold add
          rw [List.length_append]
          simp only [List.length_cons, List.length_nil]
          omega
      obtain ⟨a, b⟩ := newR_ok members r _ ht'
      have e : add t p.1 p.2 ++ r = t ++ p :: r := by simp [add]
      rw [e] at a b
      exact ⟨a, b⟩
    · rw [if_neg h]
      refine ⟨⟨fun h0 => absurd h0 h, fun hok => ?_⟩, fun h0 => absurd h0 h⟩
      exfalso
      refine h (addE_zero.2 ⟨(hok.1 p (by simp)).1, (hok.1 p (by simp)).2, get_none.2 fun hm => ?_, ?_⟩)
      · have := hok.2.1
        rw [List.map_append, List.nodup_append] at this
        exact this.2.2 _ hm p.1 (by simp) rfl
      · have := hok.2.2
        rw [List.length_append, List.length_cons] at this
        omega
theorem nodup_rev {l : List Key} (h : l.Nodup) : l.reverse.Nodup := List.pairwise_reverse.2 (List.Pairwise.imp (fun hab e => hab e.symm) h)
theorem okT_reverse {members : Int} {l : Tab} (h : okT members l) : okT members l.reverse := by
  refine ⟨fun p hp => h.1 p (List.mem_reverse.1 hp), ?_, by rw [List.length_reverse]; exact h.2.2⟩
  rw [List.map_reverse]
  exact nodup_rev h.2.1
/-- Of a table without twins: what is at a key. -/
theorem get_mem {l : Tab} (h : (l.map (·.1)).Nodup) {k : Key} {to : List Int} : get l k = some to ↔ (k, to) ∈ l := by
  induction l with
  | nil => simp [get]
  | cons p l ih =>
    rw [List.map_cons, List.nodup_cons] at h
    by_cases e : p.1 = k
    · have : get (p :: l) k = some p.2 := by
        unfold get
        rw [List.find?_cons_of_pos (by simpa using e)]
        rfl
      rw [this]
      constructor
      · intro h2
        injection h2 with h2
        subst e h2
        exact List.mem_cons_self
      · intro hm
        rcases List.mem_cons.1 hm with rfl | hm
        · rfl
        · exact absurd (List.mem_map.2 ⟨_, hm, e.symm⟩) h.1
    · have : get (p :: l) k = get l k := by
        unfold get
        rw [List.find?_cons_of_neg (by simpa using e)]
      rw [this, ih h.2]
      constructor
      · exact fun hm => List.mem_cons_of_mem _ hm
      · intro hm
        rcases List.mem_cons.1 hm with rfl | hm
        · exact absurd rfl e
        · exact hm
/-- The order in which they came is not seen. -/
theorem get_reverse {l : Tab} (h : (l.map (·.1)).Nodup) (k : Key) : get l.reverse k = get l k := by
  have hr : (l.reverse.map (·.1)).Nodup := by rw [List.map_reverse]; exact nodup_rev h
  cases e : get l k with
  | some to => exact (get_mem hr).2 (List.mem_reverse.2 ((get_mem h).1 e))
  | none =>
    refine get_none.2 fun hm => get_none.1 e ?_
    rw [List.map_reverse] at hm
    exact List.mem_reverse.1 hm
theorem find_reverse {l : Tab} (h : (l.map (·.1)).Nodup) (pan : Key) : find l.reverse pan = find l pan := by
  unfold find
  exact findN_congr fun n _ _ => get_reverse h _
end Go.Proofs.YthfncbnokjikfaaDoor.routep
