/- Walks of layer 4: Put, kind LL. Conditions: as the theorem says. -/
import Derived.Test.YtcgfbdleapjigaaFieldG
namespace Go.Proofs.Ytcgfbdleapjigaa.fieldw
open Go.RowKit Go.Proofs.Ytcgfbdleapjigaa.fieldp Go.Proofs.YtcgfbdleapjigaaW.PrintWords Go.Proofs.YtcgfbdleapjigaaW.PrintLast

set_option maxHeartbeats 4000000 in
set_option maxRecDepth 100000 in
theorem put_ll (n c : Int) (s : ByteArray) (A0 : Option Addr) (c0 : Nat) (l0 : List Int) (w : World) (hs : s.size ≤ 1000) (hl0 : l0.length ≤ 100000000) (hr0 : Kd.C (Kd.int .u8) w A0 l0.length l0) (_hc0 : l0.length ≤ c0)
    (hck : checkR 2 n c s.data.toList = 0) (hp : putOkC (digitsC c) s) (hp2 : putOkC (digitsC c) ⟨(told s.size).toArray⟩) (hs100 : s.size < 100) :
    Calls Try.prog 13 #[.slice A0 l0.length c0, .agg #[.int .i64 2, .int .i64 n, .int .i64 c], .string s] w fun e w' => ∃ v0_ : Value, e = .returned (.tuple #[v0_, .int .i64 0]) ∧ Kd.R (Kd.int .u8) 5 w' w.heap.size (fun _ => True) v0_ (l0 ++ nums8 (putBytes 2 c s.data.toList)) ∧ Below w.heap.size w w' := by
  have HCK := check_any 2 n c s
  rw [hck] at HCK
  have HK := Lib.hid (fun w => HCK w (by omega))
  have HC := Lib.hid (codes_any 2 n c)
  have HR0 := Aside0.mk hr0
  clear HCK hck hr0
  go_enter Try.func13, Try.ntmps13
  go_wp2_with fail
  refine (HK.out _).mono ?_
  rintro e w1 ⟨rfl, hb1⟩
  obtain ⟨hc1, hf1⟩ := bcell hb1
  have hz1 : w.heap.size + 1 ≤ w1.heap.size := by have := hb1.size; simp at this; omega
  have HB1 := Aside0.mk (((Below.refl w.heap.size w).alloc (Nat.le_refl _) _).trans (hb1.mono (by simp)))
  clear hb1
  go_wp2_with fail
  refine (HC.out _).mono ?_
  rintro e w2 ⟨vl, vd, vr, rfl, hcl, hcd, hcr, hb2⟩
  obtain ⟨x0, x1, x2, x3, x4, rfl, hentX, hputX⟩ := hcl.puts
  obtain ⟨y0, y1, y2, y3, y4, rfl, hentY, hputY⟩ := hcr.puts
  obtain ⟨z0, z1, z2, z3, z4, rfl, hentZ, hputZ⟩ := hcd.puts
  have HE := Lib.hid hentZ
  have HP := Lib.hid (hputZ s (by omega) hp)
  have HE2 := HE
  have HQ := Lib.hid (hputZ ⟨(told s.size).toArray⟩ (by rw [size_arr, told_length]; omega) hp2)
  clear hentX hentY hentZ hputX hputY hputZ
  have hz2 : w.heap.size < w2.heap.size := by have := hb2.size; omega
  have hk0 : w2.cell? ⟨w.heap.size, 0, none⟩ = some (.int .i64 2) := by rw [hb2.cell (p := ⟨w.heap.size, 0, none⟩) (by show w.heap.size < _; omega), hc1 _ _ (by simp)]; go_simp
  have hk1 : w2.cell? ⟨w.heap.size, 1, none⟩ = some (.int .i64 n) := by rw [hb2.cell (p := ⟨w.heap.size, 1, none⟩) (by show w.heap.size < _; omega), hc1 _ _ (by simp)]; go_simp
  have hk0' := fun o1 o2 o3 => keep3 hk0 o1 o2 o3
  have hk1' := fun o1 o2 o3 => keep3 hk1 o1 o2 o3
  have hkp := Lib.hid (fun (p : Addr) (v : Value) (h : w2.cell? p = some v) o1 o2 o3 => keep3 h o1 o2 o3)
  clear hc1 hf1 hk0 hk1
  have HB2 := Aside0.mk (HB1.out.trans (hb2.mono HB1.out.size))
  clear hb2 hcl hcr hcd
  have hq1 : IntKind.i64.wrap ((s.size : Int) / 10) = (s.size : Int) / 10 := IntWalk.i64_in _ (by omega)
  have hq2 : IntKind.i64.wrap ((s.size : Int) % 10) = (s.size : Int) % 10 := IntWalk.i64_in _ (by omega)
  have hq3 : (0 : Int) ≤ (s.size : Int) / 10 := by omega
  have hq4 : (s.size : Int) / 10 < 10 := by omega
  have hq7 : (s.size : Int).tmod 10 = (s.size : Int) % 10 := by rw [Int.tmod_eq_emod_of_nonneg (by omega)]
  have hq8 : (0 : Int) ≤ (s.size : Int).tmod 10 := by omega
  have hq9 : (s.size : Int).tmod 10 < 10 := by omega
  have hq10 : IntKind.i64.wrap ((s.size : Int).tmod 10) = (s.size : Int).tmod 10 := IntWalk.i64_in _ (by omega)
  clear hq7 hq2
  have hcv := fun o1 o2 o3 a b => conv2 (((w2.alloc o1).alloc o2).alloc o3) a b (w2.heap.size + 1 + 1 + 1) (by simp)
  have HT := Lib.hid (told_eq s.size hs100)
  have hkq := Lib.hid (fun (p : Addr) (v : Value) (h : w2.cell? p = some v) o1 o2 o3 o4 => keep4 h o1 o2 o3 o4)
  go_wp2_with fail
  go_region_with (first | (rw [HE.out, Oper.upon_enter, HT.out]; refine (HQ.out _ (fun p v h => hkq.out p v h _ _ _ _)).mono ?_; rintro e w3 ⟨rfl, hb3⟩; generalize hX1 : (⟨((digitsC c).put (told s.size)).toArray⟩ : ByteArray) = X1; have HX1 := Aside0.mk hX1; clear hX1; have HB3 := Aside0.mk ((four HB2.out _ _ _ _).trans (hb3.mono (four HB2.out _ _ _ _).size)); have hcd3 : w3.cell? ⟨w2.heap.size + 1, 0, none⟩ = some (.func (.func z0) #[] z1) := (hb3.cell (by simp <;> omega)).trans (by go_simp); have hkr := Lib.hid (fun (p : Addr) (v : Value) (h : w2.cell? p = some v) => (hb3.cell (World.block_lt_of_cell? _ _ (hkq.out p v h _ _ _ _))).trans (hkq.out p v h _ _ _ _)); clear hb3))
  all_goals
    go_wp2_with fail
    rw [HE2.out, Oper.upon_enter]
    refine (HP.out w3 hkr.out).mono ?_
    rintro e w4 ⟨rfl, hb4⟩
    have HB4 := Aside0.mk (HB3.out.trans (hb4.mono HB3.out.size))
    clear hb4
    generalize hX2 : (⟨((digitsC c).put s.data.toList).toArray⟩ : ByteArray) = X2
    have HX2 := Aside0.mk hX2
    clear hX2
    have HXs : (X1 ++ X2).size ≤ 1000000 := by
      have h1 := put_length (digitsC c) (told s.size)
      have h2 := put_length (digitsC c) s.data.toList
      have e : (X1 ++ X2).size = ((digitsC c).put (told s.size)).length + ((digitsC c).put s.data.toList).length := by rw [← HX1.out, ← HX2.out, ByteArray.size_append]; rfl
      rw [size_list] at h2; rw [told_length] at h1
      omega
    have HXn : ¬ (9223372036854775807 < X1.size + X2.size) := by rw [ByteArray.size_append] at HXs; omega
    go_wp2_with (first
      | ((with_reducible refine gate_dst (N := 75) rfl ?_); refine Kd.R_lit (Kd.int .u8) _ 5 ?hg (N := 75) ?hd (xs := ([] : List Int)) (inner := []) (ok := fun _ => True) (okp := fun _ => True) ?hr ?hp (fun _ hk => hk) trivial HB4.out HB4.out.size (by simp) ?_; (case hd => rfl); (case hg => rfl); (case hr => first | (go_simp; done) | (go_simp; rfl)); (case hp => exact Reps.none _ _); intro v4 w4 ho hb hg_ hnew_; clear hg_ hnew_; have HO4 := Aside0.mk ho; have HB4 := Aside0.mk hb; clear ho hb)
      | ((with_reducible refine gate_builtin (b := .append) (xs := #[.tmp 75, .tmp 76]) rfl ?_); at_builtin; refine Kd.R_append_rows (Kd.int .u8) (w0 := w) w.heap.size rfl (.tmp 75) (.tmp 76) 22 5 (.int .u8 0) 1 rfl Try.underlying22 infoU8 rfl (by decide) (by omega) v4 [] l0 _ _ _ (fun _ => True) (fun _ => False) rfl rfl ?aO ?aR (fun _ _ h => h) (fun _ h => h.elim) (fun _ _ => trivial) ?aB ?aS ?aL ?_; (case aO => exact HO4.out); (case aR => exact Kd.C_below HR0.out HB4.out); (case aB => exact HB4.out); (case aS => exact HB4.out.size); (case aL => simp; omega); intro v5 w5 ho hb hg_ hat_; clear hg_ hat_; rw [List.nil_append] at ho; have HO5 := Aside0.mk ho; have HB5 := Aside0.mk hb; clear ho hb)
      | (at_builtin; refine print_append_str (w0 := w) w.heap.size rfl (.tmp 77) _ 22 9 5 rfl Try.underlying22 Try.underlying9 infoU8 v5 l0 (X1 ++ X2) rfl rfl ?aO ?aB ?aS ?aL ?_; (case aO => exact Kd.own_of_R HO5.out); (case aB => exact HB5.out); (case aS => exact HB5.out.size); (case aL => omega); intro v6 w6 ho0 hb hg_; clear hg_; have HO6 := Aside0.mk (Kd.R_of_own (h1 := fun _ => rfl) (ok := fun _ => True) ho0 (fun _ _ => trivial)); have HB6 := Aside0.mk hb; clear ho0 hb))
    go_ret2
    have e : bytesOf (X1 ++ X2) = nums8 (putBytes 2 c s.data.toList) := by rw [← HX1.out, ← HX2.out]; rw [bytes_app, ← size_list]; rfl
    exact ⟨v6, rfl, e ▸ HO6.out, HB6.out⟩


end Go.Proofs.Ytcgfbdleapjigaa.fieldw
