/- Layer 20: the reference's Ask, in plain words. Conditions: as each theorem says. -/
import Derived.Test.YtjndfmpicnkplaaGreatDoorRefsReconAsks
import Derived.Test.YtjndfmpicnkplaaGreatDoorRecY
namespace Go.Proofs.YtjndfmpicnkplaaGreatDoor.PureReconAsks
open Go.RowKit Go.Proofs.YtjndfmpicnkplaaGreatDoorW.PrintWords Go.Proofs.YtjndfmpicnkplaaGreatDoorW.PrintLast Go.Proofs.YtjndfmpicnkplaaGreatDoor.PReconAsks Go.Proofs.YtjndfmpicnkplaaGreatDoor.fieldp Go.Proofs.YtjndfmpicnkplaaGreatDoor.fieldw Go.Proofs.YtjndfmpicnkplaaGreatDoor.fieldl Go.Proofs.YtjndfmpicnkplaaGreatDoor.msgp Go.Proofs.YtjndfmpicnkplaaGreatDoor.msgw
def unS (x : Fld) : S43 := ⟨x.1, x.2⟩
theorem fld_un (F : Flds) : (F.map unS).map fldS = F := by
  rw [List.map_map]
  exact List.map_id _
theorem askF_all {code when stan : ByteArray} {t : Five} (h1 : (digitsR t.1 10).2 = 0) (h2 : (digitsR t.2.1 10).2 = 0) (h3 : (digitsR t.2.2.1 16).2 = 0) (h4 : (digitsR t.2.2.2.1 16).2 = 0) (h5 : (signedR t.2.2.2.2 16).2 = 0) :
    askF code when stan t = some [(7, when), (11, stan), (32, code), (74, (digitsR t.1 10).1), (76, (digitsR t.2.1 10).1), (86, (digitsR t.2.2.1 16).1), (88, (digitsR t.2.2.2.1 16).1), (97, (signedR t.2.2.2.2 16).1)] := by
  unfold askF items
  simp only [digF]
  obtain ⟨⟨a1, z1⟩, e1⟩ : ∃ r, digitsR t.1 10 = r := ⟨_, rfl⟩
  obtain ⟨⟨a2, z2⟩, e2⟩ : ∃ r, digitsR t.2.1 10 = r := ⟨_, rfl⟩
  obtain ⟨⟨a3, z3⟩, e3⟩ : ∃ r, digitsR t.2.2.1 16 = r := ⟨_, rfl⟩
  obtain ⟨⟨a4, z4⟩, e4⟩ : ∃ r, digitsR t.2.2.2.1 16 = r := ⟨_, rfl⟩
  obtain ⟨⟨a5, z5⟩, e5⟩ : ∃ r, signedR t.2.2.2.2 16 = r := ⟨_, rfl⟩
  rw [e1] at h1
  rw [e2] at h2
  rw [e3] at h3
  rw [e4] at h4
  rw [e5] at h5
  rw [e1, e2, e3, e4, e5]
  clear e1 e2 e3 e4 e5
  dsimp only at h1 h2 h3 h4 h5 ⊢
  rw [if_pos h1, if_pos h2, if_pos h3, if_pos h4, Option.bind_some, if_pos h5]
  kernel_rfl
theorem askR_none {code when stan : ByteArray} {t : Five} (h : ¬ ((digitsR t.1 10).2 = 0 ∧ (digitsR t.2.1 10).2 = 0 ∧ (digitsR t.2.2.1 16).2 = 0 ∧ (digitsR t.2.2.2.1 16).2 = 0 ∧ (signedR t.2.2.2.2 16).2 = 0)) : askR code when stan t = none := by
  unfold askR
  cases e : askF code when stan t with
  | none => rfl
  | some F =>
    obtain ⟨h1, h2, h3, h4, h5, _⟩ := ask_list e
    exact absurd ⟨h1, h2, h3, h4, h5⟩ h
/-- What the reference's Ask answers. -/
def askV (r : Option Flds) : Int × List S43 × Int := match r with
  | none => (0, [], 41)
  | some F => (500, F.map unS, 0)
theorem ref_ask (code when stan : ByteArray) (mem t0 t1 t2 t3 t4 : Int) (h0 : okI t0) (h1 : okI t1) (h2 : okI t2) (h3 : okI t3) (h4 : okI t4) (s0 : code.size ≤ 1048576) (s1 : when.size ≤ 1048576) (s2 : stan.size ≤ 1048576) (k : Nat) (hk : 1050000 < k) :
    groatref20_Ask.f k code when stan mem t0 t1 t2 t3 t4 = some (askV (askR code when stan (t0, t1, t2, t3, t4))) := by
  unfold okI at h0 h1 h2 h3 h4
  obtain ⟨k, rfl⟩ : ∃ m, k = m + 6 := ⟨k - 6, by omega⟩
  have hall := @askF_all code when stan (t0, t1, t2, t3, t4)
  have hnone := @askR_none code when stan (t0, t1, t2, t3, t4)
  dsimp only at hall hnone
  obtain ⟨⟨a1, z1⟩, e1⟩ : ∃ r, digitsR t0 10 = r := ⟨_, rfl⟩
  obtain ⟨⟨a2, z2⟩, e2⟩ : ∃ r, digitsR t1 10 = r := ⟨_, rfl⟩
  obtain ⟨⟨a3, z3⟩, e3⟩ : ∃ r, digitsR t2 16 = r := ⟨_, rfl⟩
  obtain ⟨⟨a4, z4⟩, e4⟩ : ∃ r, digitsR t3 16 = r := ⟨_, rfl⟩
  have g1 := digitsR_size t0 10
  have g2 := digitsR_size t1 10
  have g3 := digitsR_size t2 16
  have g4 := digitsR_size t3 16
  have d1 : groatref04_Digits.f (k + 5) (rd [t0, t1, t2, t3] 0) (rd [10, 10, 16, 16] 0) = some (a1, z1) := by rw [← e1]; exact ref_digits t0 10 (by omega) _ (by omega)
  have d2 : groatref04_Digits.f (k + 4) (rd [t0, t1, t2, t3] 1) (rd [10, 10, 16, 16] 1) = some (a2, z2) := by rw [← e2]; exact ref_digits t1 10 (by omega) _ (by omega)
  have d3 : groatref04_Digits.f (k + 3) (rd [t0, t1, t2, t3] 2) (rd [10, 10, 16, 16] 2) = some (a3, z3) := by rw [← e3]; exact ref_digits t2 16 (by omega) _ (by omega)
  have d4 : groatref04_Digits.f (k + 2) (rd [t0, t1, t2, t3] 3) (rd [10, 10, 16, 16] 3) = some (a4, z4) := by rw [← e4]; exact ref_digits t3 16 (by omega) _ (by omega)
  rw [e1, e2, e3, e4] at hall hnone
  rw [e1] at g1
  rw [e2] at g2
  rw [e3] at g3
  rw [e4] at g4
  clear e1 e2 e3 e4
  dsimp only at hall hnone g1 g2 g3 g4
  have l4 : ∀ (a b c d : Int), (([a, b, c, d] : List Int).length : Int) = 4 := fun _ _ _ _ => rfl
  unfold groatref20_Ask.f
  rw [groatref20_Ask.l0, if_pos (by decide), if_pos (by decide), if_pos (by rw [l4]; decide), if_pos (by rw [l4]; decide), d1, Option.bind_some]
  dsimp only
  refine Decidable.byCases (p := z1 = 0) (fun q1 => ?_) (fun q1 => by rw [if_neg q1, hnone (fun h => q1 h.1)]; rfl)
  rw [if_pos q1, if_pos (by rw [l4]; decide), if_pos (by simp), show wrap64 (0 + 1) = 1 from IntWalk.wrap64_in (0 + 1) ⟨by decide, by decide⟩]
  rw [groatref20_Ask.l0, if_pos (by decide), if_pos (by decide), if_pos (by rw [l4]; decide), if_pos (by rw [l4]; decide), d2, Option.bind_some]
  dsimp only
  refine Decidable.byCases (p := z2 = 0) (fun q2 => ?_) (fun q2 => by rw [if_neg q2, hnone (fun h => q2 h.2.1)]; rfl)
  rw [if_pos q2, if_pos (by rw [l4]; decide), if_pos (by simp), show wrap64 (1 + 1) = 2 from IntWalk.wrap64_in (1 + 1) ⟨by decide, by decide⟩]
  rw [groatref20_Ask.l0, if_pos (by decide), if_pos (by decide), if_pos (by rw [l4]; decide), if_pos (by rw [l4]; decide), d3, Option.bind_some]
  dsimp only
  refine Decidable.byCases (p := z3 = 0) (fun q3 => ?_) (fun q3 => by rw [if_neg q3, hnone (fun h => q3 h.2.2.1)]; rfl)
  rw [if_pos q3, if_pos (by rw [l4]; decide), if_pos (by simp), show wrap64 (2 + 1) = 3 from IntWalk.wrap64_in (2 + 1) ⟨by decide, by decide⟩]
  rw [groatref20_Ask.l0, if_pos (by decide), if_pos (by decide), if_pos (by rw [l4]; decide), if_pos (by rw [l4]; decide), d4, Option.bind_some]
  dsimp only
  refine Decidable.byCases (p := z4 = 0) (fun q4 => ?_) (fun q4 => by rw [if_neg q4, hnone (fun h => q4 h.2.2.2.1)]; rfl)
  rw [if_pos q4, if_pos (by rw [l4]; decide), if_pos (by simp), show wrap64 (3 + 1) = 4 from IntWalk.wrap64_in (3 + 1) ⟨by decide, by decide⟩]
  rw [groatref20_Ask.l0, if_neg (by decide)]
  have fin : ∀ (x18 : ByteArray) (x19 : Int), x18.size = 1 → x19 ≤ 9223372036854775807 → signedR t4 16 = (x18 ++ (digitsR x19 16).1, (digitsR x19 16).2) →
      groatref20_Ask.j1 (k + 1) x18 x19 0 500 ([⟨7, when⟩, ⟨11, stan⟩, ⟨32, code⟩] ++ [⟨rd [74, 76, 86, 88] 0, a1⟩] ++ [⟨rd [74, 76, 86, 88] 1, a2⟩] ++ [⟨rd [74, 76, 86, 88] 2, a3⟩] ++ [⟨rd [74, 76, 86, 88] 3, a4⟩]) = some (askV (askR code when stan (t0, t1, t2, t3, t4))) := by
    intro x18 x19 hx1 hx2 hx3
    have g5 := digitsR_size x19 16
    rw [hx3] at hall hnone
    obtain ⟨⟨a5, z5⟩, e5⟩ : ∃ r, digitsR x19 16 = r := ⟨_, rfl⟩
    have d5 : groatref04_Digits.f k x19 16 = some (a5, z5) := by rw [← e5]; exact ref_digits x19 16 hx2 _ (by omega)
    rw [e5] at hall hnone g5
    clear e5
    dsimp only at hall hnone g5
    rw [groatref20_Ask.j1, d5, Option.bind_some]
    dsimp only
    refine Decidable.byCases (p := z5 = 0) (fun q5 => ?_) (fun q5 => by rw [if_neg q5, hnone (fun h => q5 h.2.2.2.2)]; rfl)
    rw [if_pos q5, if_pos (by omega), if_pos (by simp), Option.bind_some]
    have hF := hall q1 q2 q3 q4 q5
    obtain ⟨F, eF⟩ : ∃ F : Flds, F = [(7, when), (11, stan), (32, code), (74, a1), (76, a2), (86, a3), (88, a4), (97, x18 ++ a5)] := ⟨_, rfl⟩
    have hl : ([⟨7, when⟩, ⟨11, stan⟩, ⟨32, code⟩] ++ [⟨rd [74, 76, 86, 88] 0, a1⟩] ++ [⟨rd [74, 76, 86, 88] 1, a2⟩] ++ [⟨rd [74, 76, 86, 88] 2, a3⟩] ++ [⟨rd [74, 76, 86, 88] 3, a4⟩] ++ [⟨97, x18 ++ a5⟩] : List S43) = F.map unS := by rw [eF]; rfl
    rw [hl, ref_check05 500 _ (by
      intro x hx
      obtain ⟨y, hy, rfl⟩ := List.mem_map.1 hx
      rw [eF] at hy
      have e3 : (x18 ++ a5).size = x18.size + a5.size := ByteArray.size_append
      simp only [List.mem_cons, List.not_mem_nil, or_false] at hy
      rcases hy with rfl | rfl | rfl | rfl | rfl | rfl | rfl | rfl
      · exact (show ByteArray.size when ≤ 1048577 by omega)
      · exact (show ByteArray.size stan ≤ 1048577 by omega)
      · exact (show ByteArray.size code ≤ 1048577 by omega)
      · exact (show ByteArray.size a1 ≤ 1048577 by omega)
      · exact (show ByteArray.size a2 ≤ 1048577 by omega)
      · exact (show ByteArray.size a3 ≤ 1048577 by omega)
      · exact (show ByteArray.size a4 ≤ 1048577 by omega)
      · exact (show ByteArray.size (x18 ++ a5) ≤ 1048577 by rw [e3]; omega)
      ) _ (by omega), Option.bind_some, fld_un]
    have hc : chkR 500 F = erZ (errF 0 F) := by
      unfold chkR
      rw [if_neg (by decide), if_neg (by rw [eF]; simp)]
    rw [hc]
    unfold askR
    rw [hF, Option.bind_some, ← eF]
    cases e : errF 0 F with
    | none => rfl
    | some er =>
      have hne := errF_ne e
      rw [if_neg (show ¬ erZ (some er) = 0 from hne), if_neg (by simp)]
      rfl
  by_cases hn : t4 < 0
  · rw [if_pos hn]
    by_cases hm : t4 = -9223372036854775808
    · rw [if_pos hm]
      have hz : (signedR t4 16).2 ≠ 0 := by rw [hm, show (signedR (-9223372036854775808) 16).2 = 41 from by kernel_rfl]; decide
      rw [hnone (fun h => hz h.2.2.2.2)]
      rfl
    · rw [if_neg hm]
      have hw : wrap64 (-t4) = -t4 := IntWalk.wrap64_in _ ⟨by omega, by omega⟩
      exact fin _ _ rfl (by omega) (by unfold signedR; rw [if_pos hn])
  · rw [if_neg hn]
    exact fin _ _ rfl (by omega) (by unfold signedR; rw [if_neg hn])
end Go.Proofs.YtjndfmpicnkplaaGreatDoor.PureReconAsks
