/- Walks of layer 4: Put. Walks of layer 4: what reads a field, Take. Plain laws of layer 4. No walk. Conditions: as each theorem says. -/
import Derived.Test.YtommklkihjmgcaaGreatDoorFieldLite
import Derived.Test.YtommklkihjmgcaaGreatDoorWWords
import Derived.Test.YtommklkihjmgcaaGreatDoorWLast
import Derived.Test.YtommklkihjmgcaaGreatDoorWGuard
import Derived.Test.YtommklkihjmgcaaGreatDoorWMore
import Derived.Lib.AppendStr
import Derived.Deep.RegionHeld3
namespace Go.Proofs.YtommklkihjmgcaaGreatDoor.fieldw
open Go.RowKit Go.Proofs.YtommklkihjmgcaaGreatDoor.fieldp Go.Proofs.YtommklkihjmgcaaGreatDoorW.PrintWords Go.Proofs.YtommklkihjmgcaaGreatDoorW.PrintLast

theorem infoU8 : (Tryz.prog.info? 5).map (fun i => (i.zero, i.size, i.bytes)) = some (some (.int .u8 0), 1, 1) := by kernel_rfl

def told (n : Nat) : List UInt8 := [tenL.getD (n / 10) 0, tenL.getD (n % 10) 0]
def nums8 (l : List UInt8) : List Int := l.map fun b => (b.toNat : Int)
def putBytes (k c : Int) (l : List UInt8) : List UInt8 :=
  if k = 5 then (lettersC c).put (l.take 1) ++ (digitsC c).put l.tail
  else if k = 2 then (digitsC c).put (told l.length) ++ (digitsC c).put l
  else if k = 1 then (digitsC c).put l
  else if k = 3 then (lettersC c).put l
  else (rawC c).put l

def Enters (g : Nat) : Prop := ∀ (args : Array Value) (w : World), (callFunc g args).run Tryz.prog w = .ok (.enter g args) w
/-- What a function value of a code does when it puts. -/
def PutsAs (g : Nat) (q : Array Value) (w : World) (s : ByteArray) (x : List UInt8) : Prop :=
  ∀ w' : World, (∀ p v, w.cell? p = some v → w'.cell? p = some v) → Calls Tryz.prog g (#[.string s] ++ q) w' fun e w'' => e = .returned (.string ⟨x.toArray⟩) ∧ Below w'.heap.size w' w''

theorem CodeAt.shape {w : World} {lo : Nat} {v : Value} {ck : CK} (h : CodeAt w lo v ck) : ∃ g0 q0 g1 g2 q2, v = .agg #[.func (.func g0) #[] q0, .func (.func g1) #[] #[], .func (.func g2) #[] q2] := by
  cases ck with
  | plain f t =>
    obtain ⟨a, b, e, _⟩ := h
    exact ⟨_, _, _, _, _, e⟩
  | packed d =>
    obtain ⟨a, e, _⟩ := h
    exact ⟨_, _, _, _, _, e⟩

theorem keep3 {w : World} {p : Addr} {v : Value} (h : w.cell? p = some v) (o1 o2 o3 : Obj) : (((w.alloc o1).alloc o2).alloc o3).cell? p = some v := by
  have hl := World.block_lt_of_cell? w _ h
  have hb : Below w.heap.size w (((w.alloc o1).alloc o2).alloc o3) := (((Below.refl _ _).alloc (Nat.le_refl _) _).alloc (by simp) _).alloc (by simp; omega) _
  exact (hb.cell hl).trans h

theorem size_arr (l : List UInt8) : (⟨l.toArray⟩ : ByteArray).size = l.length := by simp [ByteArray.size]
theorem told_length (n : Nat) : (told n).length = 2 := rfl
theorem put_length (c : CK) (l : List UInt8) : (c.put l).length ≤ l.length + 1 := by
  cases c with
  | plain f t =>
    simp only [CK.put]
    cases h : turnL f.data.toList t.data.toList l with
    | none => simp
    | some a => have := turnL_length _ _ _ _ h; simp; omega
  | packed d =>
    simp only [CK.put, packL]
    have h := evened_even l
    rw [packE_length ((evened l).length / 2) _ (by omega)]
    have : (evened l).length ≤ l.length + 1 := by unfold evened; split <;> simp
    omega

def putOkC : CK → ByteArray → Prop
  | .plain f t, _ => f.size ≤ t.size
  | .packed _, s => ∀ x ∈ s.data.toList, isHex x
theorem CodeAt.puts {w : World} {lo : Nat} {v : Value} {ck : CK} (h : CodeAt w lo v ck) : ∃ g0 q0 g1 g2 q2, v = .agg #[.func (.func g0) #[] q0, .func (.func g1) #[] #[], .func (.func g2) #[] q2] ∧ Enters g0 ∧ ∀ s : ByteArray, s.size ≤ 100000 → putOkC ck s → PutsAs g0 q0 w s (ck.put s.data.toList) := by
  cases ck with
  | plain f t =>
    obtain ⟨a, b, e, ha, hb, _⟩ := h
    exact ⟨_, _, _, _, _, e, fun args W => enters_ Tryz.func120 (by kernel_rfl) rfl args W, fun s hs hp w' hk => put_plain s f t a b w' (hk _ _ ha) (hk _ _ hb) (by omega) hp⟩
  | packed d =>
    obtain ⟨a, e, ha, _⟩ := h
    exact ⟨_, _, _, _, _, e, fun args W => enters_ Tryz.func124 (by kernel_rfl) rfl args W, fun s hs hp w' hk => pack_any s w' (by omega) hp⟩

theorem conv2 (W : World) (a b : UInt8) (g : Nat) (hg : g = W.heap.size) : (convert 33 9 (.slice (some ⟨g, 0, none⟩) 2 2)).run Tryz.prog (W.alloc (.cells #[.int .u8 (a.toNat : Int), .int .u8 (b.toNat : Int)] 5)).drew = .ok (.string ⟨#[a, b]⟩) (W.alloc (.cells #[.int .u8 (a.toNat : Int), .int .u8 (b.toNat : Int)] 5)).drew := by
  subst hg
  refine run_convert_bytes_back _ _ _ 5 ⟨W.heap.size, 0, none⟩ 2 [a, b] Tryz.underlying33 Tryz.underlying5 Tryz.underlying9 ?_
  intro j hj
  match j, hj with
  | 0, _ => go_simp
  | 1, _ => go_simp
theorem told_eq (n : Nat) (hn : n < 100) (h1 : ((n : Int) / 10).toNat < (⟨#[48, 49, 50, 51, 52, 53, 54, 55, 56, 57]⟩ : ByteArray).size) (h2 : ((n : Int).tmod 10).toNat < (⟨#[48, 49, 50, 51, 52, 53, 54, 55, 56, 57]⟩ : ByteArray).size) :
    (⟨#[(⟨#[48, 49, 50, 51, 52, 53, 54, 55, 56, 57]⟩ : ByteArray)[((n : Int) / 10).toNat]'h1, (⟨#[48, 49, 50, 51, 52, 53, 54, 55, 56, 57]⟩ : ByteArray)[((n : Int).tmod 10).toNat]'h2]⟩ : ByteArray) = ⟨(told n).toArray⟩ := by
  have e1 : ((n : Int) / 10).toNat = n / 10 := by omega
  have e2 : ((n : Int).tmod 10).toNat = n % 10 := by rw [Int.tmod_eq_emod_of_nonneg (by omega)]; omega
  have t : ∀ (i : Nat) (h : i < (⟨#[48, 49, 50, 51, 52, 53, 54, 55, 56, 57]⟩ : ByteArray).size), (⟨#[48, 49, 50, 51, 52, 53, 54, 55, 56, 57]⟩ : ByteArray)[i] = tenL.getD i 0 := by
    intro i h
    have h' : i < tenL.length := h
    rw [List.getD_eq_getElem?_getD, List.getElem?_eq_getElem h']
    rfl
  rw [t, t]
  simp only [e1, e2, told]
theorem four {w w2 : World} (hB : Below w.heap.size w w2) (o1 o2 o3 o4 : Obj) : Below w.heap.size w ((((w2.alloc o1).alloc o2).alloc o3).alloc o4).drew :=
  have h := hB.size
  (((((hB.alloc h _).alloc (by simp; omega) _).alloc (by simp; omega) _).alloc (by simp; omega) _)).drew
theorem three {w w2 : World} (hB : Below w.heap.size w w2) (o1 o2 o3 : Obj) : Below w.heap.size w (((w2.alloc o1).alloc o2).alloc o3).drew :=
  have h := hB.size
  ((((hB.alloc h _).alloc (by simp; omega) _).alloc (by simp; omega) _)).drew
theorem keep3d {w2 : World} {p : Addr} {v : Value} (h : w2.cell? p = some v) (o1 o2 o3 : Obj) : ((((w2.alloc o1).alloc o2).alloc o3).drew).cell? p = some v := by
  have hl := World.block_lt_of_cell? w2 _ h
  exact ((three (Below.refl _ _) o1 o2 o3).cell hl).trans h
theorem bytes_app (a b : List UInt8) : bytesOf ((⟨a.toArray⟩ : ByteArray) ++ ⟨b.toArray⟩) = nums8 (a ++ b) := by
  simp [bytesOf, nums8]
theorem cut_head (s : ByteArray) : (s.extract 0 1).data.toList = s.data.toList.take 1 := by simp [ByteArray.data_extract]
theorem cut_tail (s : ByteArray) : (s.extract 1 s.size).data.toList = s.data.toList.tail := by
  simp [ByteArray.data_extract]
  exact List.take_of_length_le (by simp)
theorem keep4 {w2 : World} {p : Addr} {v : Value} (h : w2.cell? p = some v) (o1 o2 o3 o4 : Obj) : (((((w2.alloc o1).alloc o2).alloc o3).alloc o4).drew).cell? p = some v := by
  have hl := World.block_lt_of_cell? w2 _ h
  exact ((four (Below.refl _ _) o1 o2 o3 o4).cell hl).trans h

set_option maxHeartbeats 4000000 in
set_option maxRecDepth 100000 in
theorem put_n (n c : Int) (s : ByteArray) (A0 : Option Addr) (c0 : Nat) (l0 : List Int) (w : World) (hs : s.size ≤ 1000) (hl0 : l0.length ≤ 100000000) (hr0 : Kd.C (Kd.int .u8) w A0 l0.length l0) (_hc0 : l0.length ≤ c0)
    (hck : checkR 1 n c s.data.toList = 0) (hp : putOkC (digitsC c) s) :
    Calls Tryz.prog 49 #[.slice A0 l0.length c0, .agg #[.int .i64 1, .int .i64 n, .int .i64 c], .string s] w fun e w' => ∃ v0_ : Value, e = .returned (.tuple #[v0_, .int .i64 0]) ∧ Kd.R (Kd.int .u8) 5 w' w.heap.size (fun _ => True) v0_ (l0 ++ nums8 (putBytes 1 c s.data.toList)) ∧ Below w.heap.size w w' := by
  have HCK := check_any 1 n c s
  rw [hck] at HCK
  have HK := Lib.hid (fun w => HCK w (by omega))
  have HC := Lib.hid (codes_any 1 n c)
  have HR0 := Aside0.mk hr0
  clear HCK hck hr0
  go_enter Tryz.func49, Tryz.ntmps49
  go_wp2_with fail
  refine (HK.out _).mono ?_
  rintro e w1 ⟨rfl, hb1⟩
  obtain ⟨hc1, hf1⟩ := bcell hb1
  have hz1 : w.heap.size + 1 ≤ w1.heap.size := by have := hb1.size; simp at this; omega
  have HB1 := Aside0.mk (((Below.refl w.heap.size w).alloc (Nat.le_refl _) _).trans (hb1.mono (by simp)))
  clear hb1
  go_wp2_with fail
  refine (HC.out _).mono ?_
  rintro e w2 ⟨vl, vd, vr, rfl, hcl, hcd, hcr, hb2⟩
  obtain ⟨x0, x1, x2, x3, x4, rfl, hentX, hputX⟩ := hcl.puts
  obtain ⟨y0, y1, y2, y3, y4, rfl, hentY, hputY⟩ := hcr.puts
  obtain ⟨z0, z1, z2, z3, z4, rfl, hentZ, hputZ⟩ := hcd.puts
  have HE := Lib.hid hentZ
  have HP := Lib.hid (hputZ s (by omega) hp)
  clear hentX hentY hentZ hputX hputY hputZ
  have hz2 : w.heap.size < w2.heap.size := by have := hb2.size; omega
  have hk0 : w2.cell? ⟨w.heap.size, 0, none⟩ = some (.int .i64 1) := by rw [hb2.cell (p := ⟨w.heap.size, 0, none⟩) (by show w.heap.size < _; omega), hc1 _ _ (by simp)]; go_simp
  have hk1 : w2.cell? ⟨w.heap.size, 1, none⟩ = some (.int .i64 n) := by rw [hb2.cell (p := ⟨w.heap.size, 1, none⟩) (by show w.heap.size < _; omega), hc1 _ _ (by simp)]; go_simp
  have hk0' := fun o1 o2 o3 => keep3 hk0 o1 o2 o3
  have hk1' := fun o1 o2 o3 => keep3 hk1 o1 o2 o3
  have hkp := Lib.hid (fun (p : Addr) (v : Value) (h : w2.cell? p = some v) o1 o2 o3 => keep3 h o1 o2 o3)
  clear hc1 hf1 hk0 hk1
  have HB2 := Aside0.mk (HB1.out.trans (hb2.mono HB1.out.size))
  clear hb2 hcl hcr hcd
  go_wp2_with fail
  rw [HE.out, Oper.upon_enter]
  refine (HP.out _ (fun p v h => hkp.out p v h _ _ _)).mono ?_
  rintro e w3 ⟨rfl, hb3⟩
  have HB3 := Aside0.mk (HB2.out.trans (((((Below.refl _ _).alloc (Nat.le_refl _) _).alloc (by simp) _).alloc (by simp; omega) _).trans (hb3.mono (by simp; omega)) |>.mono HB2.out.size))
  clear hb3
  generalize hX : (⟨((digitsC c).put s.data.toList).toArray⟩ : ByteArray) = X
  have HX := Aside0.mk hX
  clear hX
  have HXs : X.size ≤ 1000000 := by
    have := put_length (digitsC c) s.data.toList
    rw [← HX.out, size_arr]
    rw [size_list] at this
    omega
  go_wp2_with (first
    | ((with_reducible refine gate_dst (N := 75) rfl ?_); refine Kd.R_lit (Kd.int .u8) _ 5 ?hg (N := 75) ?hd (xs := ([] : List Int)) (inner := []) (ok := fun _ => True) (okp := fun _ => True) ?hr ?hp (fun _ hk => hk) trivial HB3.out HB3.out.size (by simp) ?_; (case hd => rfl); (case hg => rfl); (case hr => first | (go_simp; done) | (go_simp; rfl)); (case hp => exact Reps.none _ _); intro v4 w4 ho hb hg_ hnew_; clear hg_ hnew_; have HO4 := Aside0.mk ho; have HB4 := Aside0.mk hb; clear ho hb)
    | ((with_reducible refine gate_builtin (b := .append) (xs := #[.tmp 75, .tmp 76]) rfl ?_); at_builtin; refine Kd.R_append_rows (Kd.int .u8) (w0 := w) w.heap.size rfl (.tmp 75) (.tmp 76) 33 5 (.int .u8 0) 1 rfl Tryz.underlying33 infoU8 rfl (by decide) (by omega) v4 [] l0 _ _ _ (fun _ => True) (fun _ => False) rfl rfl ?aO ?aR (fun _ _ h => h) (fun _ h => h.elim) (fun _ _ => trivial) ?aB ?aS ?aL ?_; (case aO => exact HO4.out); (case aR => exact Kd.C_below HR0.out HB4.out); (case aB => exact HB4.out); (case aS => exact HB4.out.size); (case aL => simp; omega); intro v5 w5 ho hb hg_ hat_; clear hg_ hat_; rw [List.nil_append] at ho; have HO5 := Aside0.mk ho; have HB5 := Aside0.mk hb; clear ho hb)
    | (at_builtin; refine print_append_str (w0 := w) w.heap.size rfl (.tmp 77) _ 33 9 5 rfl Tryz.underlying33 Tryz.underlying9 infoU8 v5 l0 X rfl rfl ?aO ?aB ?aS ?aL ?_; (case aO => exact Kd.own_of_R HO5.out); (case aB => exact HB5.out); (case aS => exact HB5.out.size); (case aL => omega); intro v6 w6 ho0 hb hg_; clear hg_; have HO6 := Aside0.mk (Kd.R_of_own (h1 := fun _ => rfl) (ok := fun _ => True) ho0 (fun _ _ => trivial)); have HB6 := Aside0.mk hb; clear ho0 hb))
  go_ret2
  have e : bytesOf X = nums8 (putBytes 1 c s.data.toList) := by rw [← HX.out]; rfl
  exact ⟨v6, rfl, e ▸ HO6.out, HB6.out⟩

set_option maxHeartbeats 4000000 in
set_option maxRecDepth 100000 in
theorem put_an (n c : Int) (s : ByteArray) (A0 : Option Addr) (c0 : Nat) (l0 : List Int) (w : World) (hs : s.size ≤ 1000) (hl0 : l0.length ≤ 100000000) (hr0 : Kd.C (Kd.int .u8) w A0 l0.length l0) (_hc0 : l0.length ≤ c0)
    (hck : checkR 3 n c s.data.toList = 0) (hp : putOkC (lettersC c) s) :
    Calls Tryz.prog 49 #[.slice A0 l0.length c0, .agg #[.int .i64 3, .int .i64 n, .int .i64 c], .string s] w fun e w' => ∃ v0_ : Value, e = .returned (.tuple #[v0_, .int .i64 0]) ∧ Kd.R (Kd.int .u8) 5 w' w.heap.size (fun _ => True) v0_ (l0 ++ nums8 (putBytes 3 c s.data.toList)) ∧ Below w.heap.size w w' := by
  have HCK := check_any 3 n c s
  rw [hck] at HCK
  have HK := Lib.hid (fun w => HCK w (by omega))
  have HC := Lib.hid (codes_any 3 n c)
  have HR0 := Aside0.mk hr0
  clear HCK hck hr0
  go_enter Tryz.func49, Tryz.ntmps49
  go_wp2_with fail
  refine (HK.out _).mono ?_
  rintro e w1 ⟨rfl, hb1⟩
  obtain ⟨hc1, hf1⟩ := bcell hb1
  have hz1 : w.heap.size + 1 ≤ w1.heap.size := by have := hb1.size; simp at this; omega
  have HB1 := Aside0.mk (((Below.refl w.heap.size w).alloc (Nat.le_refl _) _).trans (hb1.mono (by simp)))
  clear hb1
  go_wp2_with fail
  refine (HC.out _).mono ?_
  rintro e w2 ⟨vl, vd, vr, rfl, hcl, hcd, hcr, hb2⟩
  obtain ⟨x0, x1, x2, x3, x4, rfl, hentX, hputX⟩ := hcl.puts
  obtain ⟨y0, y1, y2, y3, y4, rfl, hentY, hputY⟩ := hcr.puts
  obtain ⟨z0, z1, z2, z3, z4, rfl, hentZ, hputZ⟩ := hcd.puts
  have HE := Lib.hid hentX
  have HP := Lib.hid (hputX s (by omega) hp)
  clear hentX hentY hentZ hputX hputY hputZ
  have hz2 : w.heap.size < w2.heap.size := by have := hb2.size; omega
  have hk0 : w2.cell? ⟨w.heap.size, 0, none⟩ = some (.int .i64 3) := by rw [hb2.cell (p := ⟨w.heap.size, 0, none⟩) (by show w.heap.size < _; omega), hc1 _ _ (by simp)]; go_simp
  have hk1 : w2.cell? ⟨w.heap.size, 1, none⟩ = some (.int .i64 n) := by rw [hb2.cell (p := ⟨w.heap.size, 1, none⟩) (by show w.heap.size < _; omega), hc1 _ _ (by simp)]; go_simp
  have hk0' := fun o1 o2 o3 => keep3 hk0 o1 o2 o3
  have hk1' := fun o1 o2 o3 => keep3 hk1 o1 o2 o3
  have hkp := Lib.hid (fun (p : Addr) (v : Value) (h : w2.cell? p = some v) o1 o2 o3 => keep3 h o1 o2 o3)
  clear hc1 hf1 hk0 hk1
  have HB2 := Aside0.mk (HB1.out.trans (hb2.mono HB1.out.size))
  clear hb2 hcl hcr hcd
  go_wp2_with fail
  rw [HE.out, Oper.upon_enter]
  refine (HP.out _ (fun p v h => hkp.out p v h _ _ _)).mono ?_
  rintro e w3 ⟨rfl, hb3⟩
  have HB3 := Aside0.mk (HB2.out.trans (((((Below.refl _ _).alloc (Nat.le_refl _) _).alloc (by simp) _).alloc (by simp; omega) _).trans (hb3.mono (by simp; omega)) |>.mono HB2.out.size))
  clear hb3
  generalize hX : (⟨((lettersC c).put s.data.toList).toArray⟩ : ByteArray) = X
  have HX := Aside0.mk hX
  clear hX
  have HXs : X.size ≤ 1000000 := by
    have := put_length (lettersC c) s.data.toList
    rw [← HX.out, size_arr]
    rw [size_list] at this
    omega
  go_wp2_with (first
    | ((with_reducible refine gate_dst (N := 75) rfl ?_); refine Kd.R_lit (Kd.int .u8) _ 5 ?hg (N := 75) ?hd (xs := ([] : List Int)) (inner := []) (ok := fun _ => True) (okp := fun _ => True) ?hr ?hp (fun _ hk => hk) trivial HB3.out HB3.out.size (by simp) ?_; (case hd => rfl); (case hg => rfl); (case hr => first | (go_simp; done) | (go_simp; rfl)); (case hp => exact Reps.none _ _); intro v4 w4 ho hb hg_ hnew_; clear hg_ hnew_; have HO4 := Aside0.mk ho; have HB4 := Aside0.mk hb; clear ho hb)
    | ((with_reducible refine gate_builtin (b := .append) (xs := #[.tmp 75, .tmp 76]) rfl ?_); at_builtin; refine Kd.R_append_rows (Kd.int .u8) (w0 := w) w.heap.size rfl (.tmp 75) (.tmp 76) 33 5 (.int .u8 0) 1 rfl Tryz.underlying33 infoU8 rfl (by decide) (by omega) v4 [] l0 _ _ _ (fun _ => True) (fun _ => False) rfl rfl ?aO ?aR (fun _ _ h => h) (fun _ h => h.elim) (fun _ _ => trivial) ?aB ?aS ?aL ?_; (case aO => exact HO4.out); (case aR => exact Kd.C_below HR0.out HB4.out); (case aB => exact HB4.out); (case aS => exact HB4.out.size); (case aL => simp; omega); intro v5 w5 ho hb hg_ hat_; clear hg_ hat_; rw [List.nil_append] at ho; have HO5 := Aside0.mk ho; have HB5 := Aside0.mk hb; clear ho hb)
    | (at_builtin; refine print_append_str (w0 := w) w.heap.size rfl (.tmp 77) _ 33 9 5 rfl Tryz.underlying33 Tryz.underlying9 infoU8 v5 l0 X rfl rfl ?aO ?aB ?aS ?aL ?_; (case aO => exact Kd.own_of_R HO5.out); (case aB => exact HB5.out); (case aS => exact HB5.out.size); (case aL => omega); intro v6 w6 ho0 hb hg_; clear hg_; have HO6 := Aside0.mk (Kd.R_of_own (h1 := fun _ => rfl) (ok := fun _ => True) ho0 (fun _ _ => trivial)); have HB6 := Aside0.mk hb; clear ho0 hb))
  go_ret2
  have e : bytesOf X = nums8 (putBytes 3 c s.data.toList) := by rw [← HX.out]; rfl
  exact ⟨v6, rfl, e ▸ HO6.out, HB6.out⟩

set_option maxHeartbeats 4000000 in
set_option maxRecDepth 100000 in
theorem put_b (n c : Int) (s : ByteArray) (A0 : Option Addr) (c0 : Nat) (l0 : List Int) (w : World) (hs : s.size ≤ 1000) (hl0 : l0.length ≤ 100000000) (hr0 : Kd.C (Kd.int .u8) w A0 l0.length l0) (_hc0 : l0.length ≤ c0)
    (hck : checkR 4 n c s.data.toList = 0) (hp : putOkC (rawC c) s) :
    Calls Tryz.prog 49 #[.slice A0 l0.length c0, .agg #[.int .i64 4, .int .i64 n, .int .i64 c], .string s] w fun e w' => ∃ v0_ : Value, e = .returned (.tuple #[v0_, .int .i64 0]) ∧ Kd.R (Kd.int .u8) 5 w' w.heap.size (fun _ => True) v0_ (l0 ++ nums8 (putBytes 4 c s.data.toList)) ∧ Below w.heap.size w w' := by
  have HCK := check_any 4 n c s
  rw [hck] at HCK
  have HK := Lib.hid (fun w => HCK w (by omega))
  have HC := Lib.hid (codes_any 4 n c)
  have HR0 := Aside0.mk hr0
  clear HCK hck hr0
  go_enter Tryz.func49, Tryz.ntmps49
  go_wp2_with fail
  refine (HK.out _).mono ?_
  rintro e w1 ⟨rfl, hb1⟩
  obtain ⟨hc1, hf1⟩ := bcell hb1
  have hz1 : w.heap.size + 1 ≤ w1.heap.size := by have := hb1.size; simp at this; omega
  have HB1 := Aside0.mk (((Below.refl w.heap.size w).alloc (Nat.le_refl _) _).trans (hb1.mono (by simp)))
  clear hb1
  go_wp2_with fail
  refine (HC.out _).mono ?_
  rintro e w2 ⟨vl, vd, vr, rfl, hcl, hcd, hcr, hb2⟩
  obtain ⟨x0, x1, x2, x3, x4, rfl, hentX, hputX⟩ := hcl.puts
  obtain ⟨y0, y1, y2, y3, y4, rfl, hentY, hputY⟩ := hcr.puts
  obtain ⟨z0, z1, z2, z3, z4, rfl, hentZ, hputZ⟩ := hcd.puts
  have HE := Lib.hid hentY
  have HP := Lib.hid (hputY s (by omega) hp)
  clear hentX hentY hentZ hputX hputY hputZ
  have hz2 : w.heap.size < w2.heap.size := by have := hb2.size; omega
  have hk0 : w2.cell? ⟨w.heap.size, 0, none⟩ = some (.int .i64 4) := by rw [hb2.cell (p := ⟨w.heap.size, 0, none⟩) (by show w.heap.size < _; omega), hc1 _ _ (by simp)]; go_simp
  have hk1 : w2.cell? ⟨w.heap.size, 1, none⟩ = some (.int .i64 n) := by rw [hb2.cell (p := ⟨w.heap.size, 1, none⟩) (by show w.heap.size < _; omega), hc1 _ _ (by simp)]; go_simp
  have hk0' := fun o1 o2 o3 => keep3 hk0 o1 o2 o3
  have hk1' := fun o1 o2 o3 => keep3 hk1 o1 o2 o3
  have hkp := Lib.hid (fun (p : Addr) (v : Value) (h : w2.cell? p = some v) o1 o2 o3 => keep3 h o1 o2 o3)
  clear hc1 hf1 hk0 hk1
  have HB2 := Aside0.mk (HB1.out.trans (hb2.mono HB1.out.size))
  clear hb2 hcl hcr hcd
  go_wp2_with fail
  rw [HE.out, Oper.upon_enter]
  refine (HP.out _ (fun p v h => hkp.out p v h _ _ _)).mono ?_
  rintro e w3 ⟨rfl, hb3⟩
  have HB3 := Aside0.mk (HB2.out.trans (((((Below.refl _ _).alloc (Nat.le_refl _) _).alloc (by simp) _).alloc (by simp; omega) _).trans (hb3.mono (by simp; omega)) |>.mono HB2.out.size))
  clear hb3
  generalize hX : (⟨((rawC c).put s.data.toList).toArray⟩ : ByteArray) = X
  have HX := Aside0.mk hX
  clear hX
  have HXs : X.size ≤ 1000000 := by
    have := put_length (rawC c) s.data.toList
    rw [← HX.out, size_arr]
    rw [size_list] at this
    omega
  go_wp2_with (first
    | ((with_reducible refine gate_dst (N := 75) rfl ?_); refine Kd.R_lit (Kd.int .u8) _ 5 ?hg (N := 75) ?hd (xs := ([] : List Int)) (inner := []) (ok := fun _ => True) (okp := fun _ => True) ?hr ?hp (fun _ hk => hk) trivial HB3.out HB3.out.size (by simp) ?_; (case hd => rfl); (case hg => rfl); (case hr => first | (go_simp; done) | (go_simp; rfl)); (case hp => exact Reps.none _ _); intro v4 w4 ho hb hg_ hnew_; clear hg_ hnew_; have HO4 := Aside0.mk ho; have HB4 := Aside0.mk hb; clear ho hb)
    | ((with_reducible refine gate_builtin (b := .append) (xs := #[.tmp 75, .tmp 76]) rfl ?_); at_builtin; refine Kd.R_append_rows (Kd.int .u8) (w0 := w) w.heap.size rfl (.tmp 75) (.tmp 76) 33 5 (.int .u8 0) 1 rfl Tryz.underlying33 infoU8 rfl (by decide) (by omega) v4 [] l0 _ _ _ (fun _ => True) (fun _ => False) rfl rfl ?aO ?aR (fun _ _ h => h) (fun _ h => h.elim) (fun _ _ => trivial) ?aB ?aS ?aL ?_; (case aO => exact HO4.out); (case aR => exact Kd.C_below HR0.out HB4.out); (case aB => exact HB4.out); (case aS => exact HB4.out.size); (case aL => simp; omega); intro v5 w5 ho hb hg_ hat_; clear hg_ hat_; rw [List.nil_append] at ho; have HO5 := Aside0.mk ho; have HB5 := Aside0.mk hb; clear ho hb)
    | (at_builtin; refine print_append_str (w0 := w) w.heap.size rfl (.tmp 77) _ 33 9 5 rfl Tryz.underlying33 Tryz.underlying9 infoU8 v5 l0 X rfl rfl ?aO ?aB ?aS ?aL ?_; (case aO => exact Kd.own_of_R HO5.out); (case aB => exact HB5.out); (case aS => exact HB5.out.size); (case aL => omega); intro v6 w6 ho0 hb hg_; clear hg_; have HO6 := Aside0.mk (Kd.R_of_own (h1 := fun _ => rfl) (ok := fun _ => True) ho0 (fun _ _ => trivial)); have HB6 := Aside0.mk hb; clear ho0 hb))
  go_ret2
  have e : bytesOf X = nums8 (putBytes 4 c s.data.toList) := by rw [← HX.out]; rfl
  exact ⟨v6, rfl, e ▸ HO6.out, HB6.out⟩

set_option maxHeartbeats 4000000 in
set_option maxRecDepth 100000 in
theorem put_x (n c : Int) (s : ByteArray) (A0 : Option Addr) (c0 : Nat) (l0 : List Int) (w : World) (hs : s.size ≤ 1000) (hl0 : l0.length ≤ 100000000) (hr0 : Kd.C (Kd.int .u8) w A0 l0.length l0) (_hc0 : l0.length ≤ c0)
    (hck : checkR 5 n c s.data.toList = 0) (hp : putOkC (digitsC c) (s.extract 1 s.size)) (hp2 : putOkC (lettersC c) (s.extract 0 1)) (hs1 : 1 ≤ s.size) :
    Calls Tryz.prog 49 #[.slice A0 l0.length c0, .agg #[.int .i64 5, .int .i64 n, .int .i64 c], .string s] w fun e w' => ∃ v0_ : Value, e = .returned (.tuple #[v0_, .int .i64 0]) ∧ Kd.R (Kd.int .u8) 5 w' w.heap.size (fun _ => True) v0_ (l0 ++ nums8 (putBytes 5 c s.data.toList)) ∧ Below w.heap.size w w' := by
  have HCK := check_any 5 n c s
  rw [hck] at HCK
  have HK := Lib.hid (fun w => HCK w (by omega))
  have HC := Lib.hid (codes_any 5 n c)
  have HR0 := Aside0.mk hr0
  clear HCK hck hr0
  go_enter Tryz.func49, Tryz.ntmps49
  go_wp2_with fail
  refine (HK.out _).mono ?_
  rintro e w1 ⟨rfl, hb1⟩
  obtain ⟨hc1, hf1⟩ := bcell hb1
  have hz1 : w.heap.size + 1 ≤ w1.heap.size := by have := hb1.size; simp at this; omega
  have HB1 := Aside0.mk (((Below.refl w.heap.size w).alloc (Nat.le_refl _) _).trans (hb1.mono (by simp)))
  clear hb1
  go_wp2_with fail
  refine (HC.out _).mono ?_
  rintro e w2 ⟨vl, vd, vr, rfl, hcl, hcd, hcr, hb2⟩
  obtain ⟨x0, x1, x2, x3, x4, rfl, hentX, hputX⟩ := hcl.puts
  obtain ⟨y0, y1, y2, y3, y4, rfl, hentY, hputY⟩ := hcr.puts
  obtain ⟨z0, z1, z2, z3, z4, rfl, hentZ, hputZ⟩ := hcd.puts
  have HE := Lib.hid hentX
  have HE2 := Lib.hid hentZ
  have HP := Lib.hid (hputZ (s.extract 1 s.size) (by simp; omega) hp)
  have HQ := Lib.hid (hputX (s.extract 0 1) (by simp; omega) hp2)
  clear hentX hentY hentZ hputX hputY hputZ
  have hz2 : w.heap.size < w2.heap.size := by have := hb2.size; omega
  have hk0 : w2.cell? ⟨w.heap.size, 0, none⟩ = some (.int .i64 5) := by rw [hb2.cell (p := ⟨w.heap.size, 0, none⟩) (by show w.heap.size < _; omega), hc1 _ _ (by simp)]; go_simp
  have hk1 : w2.cell? ⟨w.heap.size, 1, none⟩ = some (.int .i64 n) := by rw [hb2.cell (p := ⟨w.heap.size, 1, none⟩) (by show w.heap.size < _; omega), hc1 _ _ (by simp)]; go_simp
  have hk0' := fun o1 o2 o3 => keep3 hk0 o1 o2 o3
  have hk1' := fun o1 o2 o3 => keep3 hk1 o1 o2 o3
  have hkp := Lib.hid (fun (p : Addr) (v : Value) (h : w2.cell? p = some v) o1 o2 o3 => keep3 h o1 o2 o3)
  clear hc1 hf1 hk0 hk1
  have HB2 := Aside0.mk (HB1.out.trans (hb2.mono HB1.out.size))
  clear hb2 hcl hcr hcd
  have hq1 : (0 : Int) ≤ 1 := by decide
  have hq2 : (1 : Int) ≤ (s.size : Int) := by omega
  have hkq := Lib.hid (fun (p : Addr) (v : Value) (h : w2.cell? p = some v) o1 o2 o3 => keep3d h o1 o2 o3)
  have hsx : (s.extract 1 s.size).size = s.size - 1 := by simp
  go_wp2_with fail
  go_region_held3 (fun w' => w'.cell? ⟨w2.heap.size, 0, none⟩ = some (.func (.func x0) #[] x1)) (go_keep)
    (first | (rw [HE.out, Oper.upon_enter]; refine (HQ.out _ (fun p v h => hkq.out p v h _ _ _)).mono ?_; rintro e w3 ⟨rfl, hb3⟩; generalize hX1 : (⟨((lettersC c).put (s.extract 0 1).data.toList).toArray⟩ : ByteArray) = X1; have HX1 := Aside0.mk hX1; clear hX1; have HB3 := Aside0.mk ((three HB2.out _ _ _).trans (hb3.mono (three HB2.out _ _ _).size)); have hcd3 : w3.cell? ⟨w2.heap.size + 1, 0, none⟩ = some (.func (.func z0) #[] z1) := (hb3.cell (by simp <;> omega)).trans (by go_simp); have hcl3 : w3.cell? ⟨w2.heap.size, 0, none⟩ = some (.func (.func x0) #[] x1) := (hb3.cell (by simp <;> omega)).trans (by go_simp); have hkr := Lib.hid (fun (p : Addr) (v : Value) (h : w2.cell? p = some v) => (hb3.cell (World.block_lt_of_cell? _ _ (hkq.out p v h _ _ _))).trans (hkq.out p v h _ _ _)); clear hb3))
  all_goals
    go_wp2_with fail
    rw [HE2.out, Oper.upon_enter]
    refine (HP.out w3 hkr.out).mono ?_
    rintro e w4 ⟨rfl, hb4⟩
    have HB4 := Aside0.mk (HB3.out.trans (hb4.mono HB3.out.size))
    clear hb4
    generalize hX2 : (⟨((digitsC c).put (s.extract 1 s.size).data.toList).toArray⟩ : ByteArray) = X2
    have HX2 := Aside0.mk hX2
    clear hX2
    have HXs : (X1 ++ X2).size ≤ 1000000 := by
      have h1 := put_length (lettersC c) (s.extract 0 1).data.toList
      have h2 := put_length (digitsC c) (s.extract 1 s.size).data.toList
      have e : (X1 ++ X2).size = ((lettersC c).put (s.extract 0 1).data.toList).length + ((digitsC c).put (s.extract 1 s.size).data.toList).length := by rw [← HX1.out, ← HX2.out, ByteArray.size_append]; rfl
      rw [size_list] at h1 h2; simp only [ByteArray.size_extract] at h1 h2
      omega
    have HXn : ¬ (9223372036854775807 < X1.size + X2.size) := by rw [ByteArray.size_append] at HXs; omega
    go_wp2_with (first
      | ((with_reducible refine gate_dst (N := 75) rfl ?_); refine Kd.R_lit (Kd.int .u8) _ 5 ?hg (N := 75) ?hd (xs := ([] : List Int)) (inner := []) (ok := fun _ => True) (okp := fun _ => True) ?hr ?hp (fun _ hk => hk) trivial HB4.out HB4.out.size (by simp) ?_; (case hd => rfl); (case hg => rfl); (case hr => first | (go_simp; done) | (go_simp; rfl)); (case hp => exact Reps.none _ _); intro v4 w4 ho hb hg_ hnew_; clear hg_ hnew_; have HO4 := Aside0.mk ho; have HB4 := Aside0.mk hb; clear ho hb)
      | ((with_reducible refine gate_builtin (b := .append) (xs := #[.tmp 75, .tmp 76]) rfl ?_); at_builtin; refine Kd.R_append_rows (Kd.int .u8) (w0 := w) w.heap.size rfl (.tmp 75) (.tmp 76) 33 5 (.int .u8 0) 1 rfl Tryz.underlying33 infoU8 rfl (by decide) (by omega) v4 [] l0 _ _ _ (fun _ => True) (fun _ => False) rfl rfl ?aO ?aR (fun _ _ h => h) (fun _ h => h.elim) (fun _ _ => trivial) ?aB ?aS ?aL ?_; (case aO => exact HO4.out); (case aR => exact Kd.C_below HR0.out HB4.out); (case aB => exact HB4.out); (case aS => exact HB4.out.size); (case aL => simp; omega); intro v5 w5 ho hb hg_ hat_; clear hg_ hat_; rw [List.nil_append] at ho; have HO5 := Aside0.mk ho; have HB5 := Aside0.mk hb; clear ho hb)
      | (at_builtin; refine print_append_str (w0 := w) w.heap.size rfl (.tmp 77) _ 33 9 5 rfl Tryz.underlying33 Tryz.underlying9 infoU8 v5 l0 (X1 ++ X2) rfl rfl ?aO ?aB ?aS ?aL ?_; (case aO => exact Kd.own_of_R HO5.out); (case aB => exact HB5.out); (case aS => exact HB5.out.size); (case aL => omega); intro v6 w6 ho0 hb hg_; clear hg_; have HO6 := Aside0.mk (Kd.R_of_own (h1 := fun _ => rfl) (ok := fun _ => True) ho0 (fun _ _ => trivial)); have HB6 := Aside0.mk hb; clear ho0 hb))
    go_ret2
    have e : bytesOf (X1 ++ X2) = nums8 (putBytes 5 c s.data.toList) := by rw [← HX1.out, ← HX2.out]; rw [bytes_app, cut_head, cut_tail]; rfl
    exact ⟨v6, rfl, e ▸ HO6.out, HB6.out⟩


end Go.Proofs.YtommklkihjmgcaaGreatDoor.fieldw
namespace Go.Proofs.YtommklkihjmgcaaGreatDoor.fieldw
open Go.RowKit Go.Proofs.YtommklkihjmgcaaGreatDoor.fieldp Go.Proofs.YtommklkihjmgcaaGreatDoorW.PrintWords Go.Proofs.YtommklkihjmgcaaGreatDoorW.PrintLast

set_option maxHeartbeats 4000000 in
set_option maxRecDepth 100000 in
theorem put_ll (n c : Int) (s : ByteArray) (A0 : Option Addr) (c0 : Nat) (l0 : List Int) (w : World) (hs : s.size ≤ 1000) (hl0 : l0.length ≤ 100000000) (hr0 : Kd.C (Kd.int .u8) w A0 l0.length l0) (_hc0 : l0.length ≤ c0)
    (hck : checkR 2 n c s.data.toList = 0) (hp : putOkC (digitsC c) s) (hp2 : putOkC (digitsC c) ⟨(told s.size).toArray⟩) (hs100 : s.size < 100) :
    Calls Tryz.prog 49 #[.slice A0 l0.length c0, .agg #[.int .i64 2, .int .i64 n, .int .i64 c], .string s] w fun e w' => ∃ v0_ : Value, e = .returned (.tuple #[v0_, .int .i64 0]) ∧ Kd.R (Kd.int .u8) 5 w' w.heap.size (fun _ => True) v0_ (l0 ++ nums8 (putBytes 2 c s.data.toList)) ∧ Below w.heap.size w w' := by
  have HCK := check_any 2 n c s
  rw [hck] at HCK
  have HK := Lib.hid (fun w => HCK w (by omega))
  have HC := Lib.hid (codes_any 2 n c)
  have HR0 := Aside0.mk hr0
  clear HCK hck hr0
  go_enter Tryz.func49, Tryz.ntmps49
  go_wp2_with fail
  refine (HK.out _).mono ?_
  rintro e w1 ⟨rfl, hb1⟩
  obtain ⟨hc1, hf1⟩ := bcell hb1
  have hz1 : w.heap.size + 1 ≤ w1.heap.size := by have := hb1.size; simp at this; omega
  have HB1 := Aside0.mk (((Below.refl w.heap.size w).alloc (Nat.le_refl _) _).trans (hb1.mono (by simp)))
  clear hb1
  go_wp2_with fail
  refine (HC.out _).mono ?_
  rintro e w2 ⟨vl, vd, vr, rfl, hcl, hcd, hcr, hb2⟩
  obtain ⟨x0, x1, x2, x3, x4, rfl, hentX, hputX⟩ := hcl.puts
  obtain ⟨y0, y1, y2, y3, y4, rfl, hentY, hputY⟩ := hcr.puts
  obtain ⟨z0, z1, z2, z3, z4, rfl, hentZ, hputZ⟩ := hcd.puts
  have HE := Lib.hid hentZ
  have HP := Lib.hid (hputZ s (by omega) hp)
  have HE2 := HE
  have HQ := Lib.hid (hputZ ⟨(told s.size).toArray⟩ (by rw [size_arr, told_length]; omega) hp2)
  clear hentX hentY hentZ hputX hputY hputZ
  have hz2 : w.heap.size < w2.heap.size := by have := hb2.size; omega
  have hk0 : w2.cell? ⟨w.heap.size, 0, none⟩ = some (.int .i64 2) := by rw [hb2.cell (p := ⟨w.heap.size, 0, none⟩) (by show w.heap.size < _; omega), hc1 _ _ (by simp)]; go_simp
  have hk1 : w2.cell? ⟨w.heap.size, 1, none⟩ = some (.int .i64 n) := by rw [hb2.cell (p := ⟨w.heap.size, 1, none⟩) (by show w.heap.size < _; omega), hc1 _ _ (by simp)]; go_simp
  have hk0' := fun o1 o2 o3 => keep3 hk0 o1 o2 o3
  have hk1' := fun o1 o2 o3 => keep3 hk1 o1 o2 o3
  have hkp := Lib.hid (fun (p : Addr) (v : Value) (h : w2.cell? p = some v) o1 o2 o3 => keep3 h o1 o2 o3)
  clear hc1 hf1 hk0 hk1
  have HB2 := Aside0.mk (HB1.out.trans (hb2.mono HB1.out.size))
  clear hb2 hcl hcr hcd
  have hq1 : IntKind.i64.wrap ((s.size : Int) / 10) = (s.size : Int) / 10 := IntWalk.i64_in _ (by omega)
  have hq2 : IntKind.i64.wrap ((s.size : Int) % 10) = (s.size : Int) % 10 := IntWalk.i64_in _ (by omega)
  have hq3 : (0 : Int) ≤ (s.size : Int) / 10 := by omega
  have hq4 : (s.size : Int) / 10 < 10 := by omega
  have hq7 : (s.size : Int).tmod 10 = (s.size : Int) % 10 := by rw [Int.tmod_eq_emod_of_nonneg (by omega)]
  have hq8 : (0 : Int) ≤ (s.size : Int).tmod 10 := by omega
  have hq9 : (s.size : Int).tmod 10 < 10 := by omega
  have hq10 : IntKind.i64.wrap ((s.size : Int).tmod 10) = (s.size : Int).tmod 10 := IntWalk.i64_in _ (by omega)
  clear hq7 hq2
  have hcv := fun o1 o2 o3 a b => conv2 (((w2.alloc o1).alloc o2).alloc o3) a b (w2.heap.size + 1 + 1 + 1) (by simp)
  have HT := Lib.hid (told_eq s.size hs100)
  have hkq := Lib.hid (fun (p : Addr) (v : Value) (h : w2.cell? p = some v) o1 o2 o3 o4 => keep4 h o1 o2 o3 o4)
  go_wp2_with fail
  go_region_with (first | (rw [HE.out, Oper.upon_enter, HT.out]; refine (HQ.out _ (fun p v h => hkq.out p v h _ _ _ _)).mono ?_; rintro e w3 ⟨rfl, hb3⟩; generalize hX1 : (⟨((digitsC c).put (told s.size)).toArray⟩ : ByteArray) = X1; have HX1 := Aside0.mk hX1; clear hX1; have HB3 := Aside0.mk ((four HB2.out _ _ _ _).trans (hb3.mono (four HB2.out _ _ _ _).size)); have hcd3 : w3.cell? ⟨w2.heap.size + 1, 0, none⟩ = some (.func (.func z0) #[] z1) := (hb3.cell (by simp <;> omega)).trans (by go_simp); have hkr := Lib.hid (fun (p : Addr) (v : Value) (h : w2.cell? p = some v) => (hb3.cell (World.block_lt_of_cell? _ _ (hkq.out p v h _ _ _ _))).trans (hkq.out p v h _ _ _ _)); clear hb3))
  all_goals
    go_wp2_with fail
    rw [HE2.out, Oper.upon_enter]
    refine (HP.out w3 hkr.out).mono ?_
    rintro e w4 ⟨rfl, hb4⟩
    have HB4 := Aside0.mk (HB3.out.trans (hb4.mono HB3.out.size))
    clear hb4
    generalize hX2 : (⟨((digitsC c).put s.data.toList).toArray⟩ : ByteArray) = X2
    have HX2 := Aside0.mk hX2
    clear hX2
    have HXs : (X1 ++ X2).size ≤ 1000000 := by
      have h1 := put_length (digitsC c) (told s.size)
      have h2 := put_length (digitsC c) s.data.toList
      have e : (X1 ++ X2).size = ((digitsC c).put (told s.size)).length + ((digitsC c).put s.data.toList).length := by rw [← HX1.out, ← HX2.out, ByteArray.size_append]; rfl
      rw [size_list] at h2; rw [told_length] at h1
      omega
    have HXn : ¬ (9223372036854775807 < X1.size + X2.size) := by rw [ByteArray.size_append] at HXs; omega
    go_wp2_with (first
      | ((with_reducible refine gate_dst (N := 75) rfl ?_); refine Kd.R_lit (Kd.int .u8) _ 5 ?hg (N := 75) ?hd (xs := ([] : List Int)) (inner := []) (ok := fun _ => True) (okp := fun _ => True) ?hr ?hp (fun _ hk => hk) trivial HB4.out HB4.out.size (by simp) ?_; (case hd => rfl); (case hg => rfl); (case hr => first | (go_simp; done) | (go_simp; rfl)); (case hp => exact Reps.none _ _); intro v4 w4 ho hb hg_ hnew_; clear hg_ hnew_; have HO4 := Aside0.mk ho; have HB4 := Aside0.mk hb; clear ho hb)
      | ((with_reducible refine gate_builtin (b := .append) (xs := #[.tmp 75, .tmp 76]) rfl ?_); at_builtin; refine Kd.R_append_rows (Kd.int .u8) (w0 := w) w.heap.size rfl (.tmp 75) (.tmp 76) 33 5 (.int .u8 0) 1 rfl Tryz.underlying33 infoU8 rfl (by decide) (by omega) v4 [] l0 _ _ _ (fun _ => True) (fun _ => False) rfl rfl ?aO ?aR (fun _ _ h => h) (fun _ h => h.elim) (fun _ _ => trivial) ?aB ?aS ?aL ?_; (case aO => exact HO4.out); (case aR => exact Kd.C_below HR0.out HB4.out); (case aB => exact HB4.out); (case aS => exact HB4.out.size); (case aL => simp; omega); intro v5 w5 ho hb hg_ hat_; clear hg_ hat_; rw [List.nil_append] at ho; have HO5 := Aside0.mk ho; have HB5 := Aside0.mk hb; clear ho hb)
      | (at_builtin; refine print_append_str (w0 := w) w.heap.size rfl (.tmp 77) _ 33 9 5 rfl Tryz.underlying33 Tryz.underlying9 infoU8 v5 l0 (X1 ++ X2) rfl rfl ?aO ?aB ?aS ?aL ?_; (case aO => exact Kd.own_of_R HO5.out); (case aB => exact HB5.out); (case aS => exact HB5.out.size); (case aL => omega); intro v6 w6 ho0 hb hg_; clear hg_; have HO6 := Aside0.mk (Kd.R_of_own (h1 := fun _ => rfl) (ok := fun _ => True) ho0 (fun _ _ => trivial)); have HB6 := Aside0.mk hb; clear ho0 hb))
    go_ret2
    have e : bytesOf (X1 ++ X2) = nums8 (putBytes 2 c s.data.toList) := by rw [← HX1.out, ← HX2.out]; rw [bytes_app, ← size_list]; rfl
    exact ⟨v6, rfl, e ▸ HO6.out, HB6.out⟩


end Go.Proofs.YtommklkihjmgcaaGreatDoor.fieldw
namespace Go.Proofs.YtommklkihjmgcaaGreatDoor.fieldw
open Go.RowKit Go.Proofs.YtommklkihjmgcaaGreatDoor.fieldp Go.Proofs.YtommklkihjmgcaaGreatDoorW.PrintWords Go.Proofs.YtommklkihjmgcaaGreatDoorW.PrintLast

set_option maxHeartbeats 4000000 in
theorem put_wrong (k n c : Int) (s : ByteArray) (A0 : Option Addr) (c0 : Nat) (l0 : List Int) (w : World) (hs : s.size ≤ 100000000) (hck : checkR k n c s.data.toList ≠ 0) :
    Calls Tryz.prog 49 #[.slice A0 l0.length c0, .agg #[.int .i64 k, .int .i64 n, .int .i64 c], .string s] w fun e w' => ∃ v0_ : Value, e = .returned (.tuple #[v0_, .int .i64 (checkR k n c s.data.toList)]) ∧ Kd.R (Kd.int .u8) 5 w' w.heap.size (fun _ => True) v0_ [] ∧ Below w.heap.size w w' := by
  have HK := Lib.hid (fun w => check_any k n c s w hs)
  have hne : (checkR k n c s.data.toList != 0) = true := by simpa using hck
  generalize checkR k n c s.data.toList = r at HK hne
  clear hck
  go_enter Tryz.func49, Tryz.ntmps49
  go_wp2_with fail
  refine (HK.out _).mono ?_
  rintro e w1 ⟨rfl, hb1⟩
  have HB1 := Aside0.mk (((Below.refl w.heap.size w).alloc (Nat.le_refl _) _).trans (hb1.mono (by simp)))
  clear hb1
  go_wp2_with fail
  go_ret2
  exact ⟨_, rfl, Kd.R_nil _ _ _ _ _, HB1.out⟩

def putR (l0 : List Int) (k n c : Int) (s : ByteArray) : List Int × Int := if checkR k n c s.data.toList = 0 then (l0 ++ nums8 (putBytes k c s.data.toList), 0) else ([], checkR k n c s.data.toList)

set_option maxRecDepth 100000 in
theorem ten_hex {x : UInt8} (h : inRow tenL x = true) : isHex x := by
  unfold inRow at h
  unfold isHex
  have h' : Lib.indexByte tenL x ≠ -1 := by simpa using h
  intro e
  have : ∀ i : Fin 256, Lib.indexByte hexL (UInt8.ofNat i.1) = -1 → Lib.indexByte tenL (UInt8.ofNat i.1) = -1 := by decide
  have h2 := this ⟨x.toNat, x.toNat_lt⟩
  rw [UInt8.ofNat_toNat] at h2
  exact h' (h2 e)
theorem tens_ok {c : Int} {l : List UInt8} (s : ByteArray) (hs : s.data.toList = l) (h : l.all (inRow tenL) = true) : putOkC (digitsC c) s := by
  unfold digitsC
  split
  · exact Nat.le_refl _
  · split
    · intro x hx
      rw [hs] at hx
      exact ten_hex (List.all_eq_true.1 h x hx)
    · show tenB.size ≤ eb10.size
      decide
theorem raw_ok {c : Int} {l : List UInt8} (s : ByteArray) (hs : s.data.toList = l) (h : l.all (inRow hexL) = true) : putOkC (rawC c) s := by
  unfold rawC
  split
  · show lowB.size ≤ highB.size
    decide
  · intro x hx
    rw [hs] at hx
    have := List.all_eq_true.1 h x hx
    unfold inRow at this
    unfold isHex
    simpa using this
theorem letters_ok {c : Int} (s : ByteArray) : putOkC (lettersC c) s := by
  unfold lettersC
  split
  · exact Nat.le_refl _
  · split
    · exact Nat.le_refl _
    · show signsB.size ≤ ebcB.size
      decide
theorem told_ok (n : Nat) (h : n < 100) : (told n).all (inRow tenL) = true := by
  have : ∀ i : Fin 100, (told i.1).all (inRow tenL) = true := by decide
  exact this ⟨n, h⟩
theorem check_zero {k n c : Int} {l : List UInt8} (h : checkR k n c l = 0) : mayB k n c = true ∧ rightB k n l = true := by
  unfold checkR at h
  split at h
  · split at h
    · exact ⟨by assumption, by assumption⟩
    · cases h
  · cases h

theorem put_any (k n c : Int) (s : ByteArray) (A0 : Option Addr) (c0 : Nat) (l0 : List Int) (w : World) (hs : s.size ≤ 100000000) (hl0 : l0.length ≤ 100000000) (hr0 : Kd.C (Kd.int .u8) w A0 l0.length l0) (hc0 : l0.length ≤ c0) :
    Calls Tryz.prog 49 #[.slice A0 l0.length c0, .agg #[.int .i64 k, .int .i64 n, .int .i64 c], .string s] w fun e w' => ∃ v0_ : Value, e = .returned (.tuple #[v0_, .int .i64 (putR l0 k n c s).2]) ∧ Kd.R (Kd.int .u8) 5 w' w.heap.size (fun _ => True) v0_ (putR l0 k n c s).1 ∧ Below w.heap.size w w' := by
  by_cases h : checkR k n c s.data.toList = 0
  · have e : putR l0 k n c s = (l0 ++ nums8 (putBytes k c s.data.toList), 0) := by simp [putR, h]
    rw [e]
    obtain ⟨hm, hr⟩ := check_zero h
    have hm' : 1 ≤ k ∧ k ≤ 5 ∧ 1 ≤ n ∧ n ≤ 64 ∧ 1 ≤ c ∧ c ≤ 3 := by simpa [mayB] using hm
    unfold rightB at hr
    by_cases h5 : k = 5
    · subst h5
      rw [if_pos rfl] at hr
      cases hl : s.data.toList with
      | nil => rw [hl] at hr; cases hr
      | cons a r =>
        rw [hl] at hr
        simp only [Bool.and_eq_true] at hr
        obtain ⟨h1, h2⟩ := ofB_all hr.2
        have hsz : s.size = r.length + 1 := by rw [← size_list, hl]; rfl
        rw [← hl]
        exact put_x n c s A0 c0 l0 w (by omega) hl0 hr0 hc0 h (tens_ok _ (by rw [cut_tail, hl]; rfl) h1) (letters_ok _) (by omega)
    · rw [if_neg h5] at hr
      by_cases h1 : k = 1
      · subst h1
        obtain ⟨a, b⟩ := ofB_all hr
        rw [size_list] at b
        exact put_n n c s A0 c0 l0 w (by omega) hl0 hr0 hc0 h (tens_ok s rfl a)
      · rw [if_neg h1] at hr
        by_cases h2 : k = 2
        · subst h2
          rw [if_pos rfl] at hr
          simp only [Bool.and_eq_true, decide_eq_true_eq] at hr
          obtain ⟨a, b⟩ := ofB_all hr.2
          have := hr.1
          rw [size_list] at this
          exact put_ll n c s A0 c0 l0 w (by omega) hl0 hr0 hc0 h (tens_ok s rfl a) (tens_ok _ (by simp) (told_ok s.size (by omega))) (by omega)
        · rw [if_neg h2] at hr
          by_cases h3 : k = 3
          · subst h3
            rw [if_pos rfl] at hr
            obtain ⟨a, b⟩ := ofB_all hr
            rw [size_list] at b
            exact put_an n c s A0 c0 l0 w (by omega) hl0 hr0 hc0 h (letters_ok s)
          · rw [if_neg h3] at hr
            have h4 : k = 4 := by omega
            subst h4
            obtain ⟨a, b⟩ := ofB_all hr
            rw [size_list] at b
            exact put_b n c s A0 c0 l0 w (by omega) hl0 hr0 hc0 h (raw_ok s rfl a)
  · have e : putR l0 k n c s = ([], checkR k n c s.data.toList) := by simp [putR, h]
    rw [e]
    exact put_wrong k n c s A0 c0 l0 w hs h
end Go.Proofs.YtommklkihjmgcaaGreatDoor.fieldw
namespace Go.Proofs.YtommklkihjmgcaaGreatDoor.fieldw
open Go.RowKit Go.Proofs.YtommklkihjmgcaaGreatDoor.fieldp Go.Proofs.YtommklkihjmgcaaGreatDoorW.PrintWords Go.Proofs.YtommklkihjmgcaaGreatDoorW.PrintLast

/-- The world is as it was, but for one block. -/
structure Touch (b : Nat) (w w' : World) : Prop where
  os : w'.os = w.os
  tape : w'.tape = w.tape
  output : w'.output = w.output
  size : w.heap.size ≤ w'.heap.size
  block : ∀ k, k < w.heap.size → k ≠ b → w'.heap[k]? = w.heap[k]?
theorem Touch.refl (b : Nat) (w : World) : Touch b w w := ⟨rfl, rfl, rfl, Nat.le_refl _, fun _ _ _ => rfl⟩
theorem Touch.of_below {w w' : World} (h : Below w.heap.size w w') (b : Nat) : Touch b w w' := ⟨h.os, h.tape, h.output, h.size, fun k hk _ => h.block k hk⟩
theorem Touch.trans {b : Nat} {a w w' : World} (h : Touch b a w) (k : Touch b w w') : Touch b a w' :=
  ⟨k.os.trans h.os, k.tape.trans h.tape, k.output.trans h.output, Nat.le_trans h.size k.size, fun i hi hb => (k.block i (Nat.lt_of_lt_of_le hi h.size) hb).trans (h.block i hi hb)⟩
theorem Touch.set {b : Nat} (w : World) (j : Nat) (u : Value) : Touch b w (w.setCell ⟨b, j, none⟩ u) :=
  ⟨rfl, rfl, rfl, by simp [World.setCell], fun k _ hb => Below.heap_setCell _ _ _ _ hb⟩
theorem Touch.below {b B : Nat} {w w' : World} (h : Touch b w w') (hB : B ≤ w.heap.size) (hb : B ≤ b) : Below B w w' :=
  ⟨h.os, h.tape, h.output, h.size, fun k hk => h.block k (by omega) (by omega)⟩
theorem Touch.cell {b : Nat} {w w' : World} (h : Touch b w w') {p : Addr} {v : Value} (hp : p.block ≠ b) (hv : w.cell? p = some v) : w'.cell? p = some v := by
  have hl := World.block_lt_of_cell? w _ hv
  have e := h.block p.block hl hp
  unfold World.cell? at hv ⊢
  rw [e]
  exact hv

def CK.size : CK → Int → Int
  | .plain _ _, n => n
  | .packed _, n => (n + 1) / 2
def CK.take : CK → List UInt8 → Int → Option (List UInt8)
  | .plain f t, l, _ => turnL t.data.toList f.data.toList l
  | .packed d, l, n => takePacked d.data.toList l n.toNat
def takeOkC : CK → Prop
  | .plain f t => t.size ≤ f.size
  | .packed _ => True

def SizesAs (g : Nat) (n k : Int) : Prop := ∀ w : World, Calls Tryz.prog g #[.int .i64 n] w fun e w' => e = .returned (.int .i64 k) ∧ w = w'
def TakesAs (g : Nat) (q : Array Value) (w : World) (s : ByteArray) (n : Int) (x : Option (List UInt8)) : Prop :=
  ∀ w' : World, (∀ p v, w.cell? p = some v → w'.cell? p = some v) → Calls Tryz.prog g (#[.string s, .int .i64 n] ++ q) w' (ret2b x w')

theorem CodeAt.takes {w : World} {lo : Nat} {v : Value} {ck : CK} (h : CodeAt w lo v ck) (hok : takeOkC ck) : ∃ g0 q0 g1 g2 q2, v = .agg #[.func (.func g0) #[] q0, .func (.func g1) #[] #[], .func (.func g2) #[] q2] ∧ Enters g1 ∧ Enters g2 ∧
    (∀ n : Int, 0 ≤ n → n ≤ 1000 → SizesAs g1 n (ck.size n)) ∧
    (∀ (s : ByteArray) (n : Int), s.size ≤ 1000 → 0 ≤ n → n ≤ 1000 → (s.size : Int) = ck.size n → TakesAs g2 q2 w s n (ck.take s.data.toList n)) := by
  cases ck with
  | plain f t =>
    obtain ⟨a, b, e, ha, hb, _⟩ := h
    refine ⟨_, _, _, _, _, e, fun args W => enters_ Tryz.func122 (by kernel_rfl) rfl args W, fun args W => enters_ Tryz.func123 (by kernel_rfl) rfl args W, fun n _ _ w => size_plain n w, fun s n hs _ _ _ w' hk => ?_⟩
    refine (take_plain s f t n a b w' (hk _ _ ha) (hk _ _ hb) (by omega) hok).mono ?_
    rintro e w1 ⟨rfl, hb⟩
    exact ⟨_, rfl, fun y hy => by have : turnL t.data.toList f.data.toList s.data.toList = some y := hy
                                  rw [this]; rfl, hb⟩
  | packed d =>
    obtain ⟨a, e, ha, _⟩ := h
    refine ⟨_, _, _, _, _, e, fun args W => enters_ Tryz.func125 (by kernel_rfl) rfl args W, fun args W => enters_ Tryz.func126 (by kernel_rfl) rfl args W, fun n h0 h1 w => size_packed n w h0 h1, fun s n hs h0 h1 hsz w' hk => ?_⟩
    obtain ⟨m, rfl⟩ : ∃ m : Nat, n = (m : Int) := ⟨n.toNat, by omega⟩
    have hsz' : (s.size : Int) = ((m : Int) + 1) / 2 := hsz
    exact take_packed s d m a w' (hk _ _ ha) hs (by omega) (by omega)

/-- The next signs: what they say, what is left, what is wrong. -/
def nextL (ck : CK) (n : Int) (l : List UInt8) (e : Int) : List UInt8 × List UInt8 × Int :=
  if e ≠ 0 then ([], l, e)
  else if (l.length : Int) < ck.size n then ([], l, 43)
  else match ck.take (l.take (ck.size n).toNat) n with
    | none => ([], l, 42)
    | some t => (t, l.drop (ck.size n).toNat, 0)
/-- A reader's block. -/
def Rd (w : World) (b : Nat) (l : List UInt8) (e : Int) : Prop := w.heap[b]? = some (.cells #[.string ⟨l.toArray⟩, .int .i64 e] 194 (0, 0))
theorem one_ (w : World) (o : Obj) : Below w.heap.size w (w.alloc o).drew := ((Below.refl _ _).alloc (Nat.le_refl _) _).drew
theorem keep1d {w2 : World} {p : Addr} {v : Value} (h : w2.cell? p = some v) (o : Obj) : ((w2.alloc o).drew).cell? p = some v := by
  have hl := World.block_lt_of_cell? w2 _ h
  exact ((one_ w2 o).cell hl).trans h
def nextPost (w : World) (b : Nat) (r : List UInt8 × List UInt8 × Int) (e : Ending) (w' : World) : Prop :=
  e = .returned (.string ⟨r.1.toArray⟩) ∧ Rd w' b r.2.1 r.2.2 ∧ Touch b w w'

set_option maxHeartbeats 4000000 in
set_option maxRecDepth 100000 in
theorem next_any {w : World} {lo : Nat} {v : Value} {ck : CK} (hcode : CodeAt w lo v ck) (hok : takeOkC ck) (b : Nat) (l : List UInt8) (e n : Int) (hrd : Rd w b l e) (hn0 : 0 ≤ n) (hn1 : n ≤ 1000) :
    Calls Tryz.prog 135 #[.pointer (some ⟨b, 0, none⟩), v, .int .i64 n] w (nextPost w b (nextL ck n l e)) := by
  have hcode' := hcode
  obtain ⟨g0, q0, g1, g2, q2, rfl, he1, he2, hsz, htk⟩ := hcode.takes hok
  have HE1 := Lib.hid he1
  have HE2 := Lib.hid he2
  have HS := Lib.hid (hsz n hn0 hn1)
  have hblt : b < w.heap.size := (Array.getElem?_eq_some_iff.1 hrd).1
  have hr0 : w.cell? ⟨b, 0, none⟩ = some (.string ⟨l.toArray⟩) := blk_cell hrd 0
  have hr1 : w.cell? ⟨b, 1, none⟩ = some (.int .i64 e) := blk_cell hrd 1
  have hf0 : w.frozen? ⟨b, 0, none⟩ = false := blk_frozen hrd 0
  have hf1 : w.frozen? ⟨b, 1, none⟩ = false := blk_frozen hrd 1
  have HRD := Aside0.mk hrd
  have hsl : (⟨l.toArray⟩ : ByteArray).size = l.length := size_arr l
  have hks : 0 ≤ ck.size n ∧ ck.size n ≤ 1000 := by
    cases ck with
    | plain f t => exact ⟨hn0, by show n ≤ 1000; omega⟩
    | packed d => exact ⟨by show 0 ≤ (n + 1) / 2; omega, by show (n + 1) / 2 ≤ 1000; omega⟩
  obtain ⟨k, hk⟩ : ∃ k : Nat, ck.size n = (k : Int) := ⟨(ck.size n).toNat, by omega⟩
  have hk1 : k ≤ 1000 := by omega
  rw [hk] at HS
  by_cases hez : e = 0
  · subst hez
    by_cases hlt : l.length < k
    · have hfin : nextL ck n l 0 = ([], l, 43) := by simp [nextL, hk, hlt]
      rw [hfin]
      have hlt' : (l.length : Int) < (k : Int) := by omega
      clear hsz htk hfin hks hk
      go_enter Tryz.func135, Tryz.ntmps135
      go_wp2_with fail
      rw [HE1.out, Oper.upon_enter]
      refine (HS.out _).mono ?_
      rintro e_ w1 ⟨rfl, rfl⟩
      go_wp2_with fail
      go_ret
      exact ⟨rfl, blk_alloc (blk_set HRD.out 1 _) _, (Touch.set _ _ _).trans (Touch.of_below ((Below.refl _ _).alloc (Nat.le_refl _) _) _)⟩
    · have hle : k ≤ l.length := by omega
      have hsk : ((⟨l.toArray⟩ : ByteArray).extract 0 k).data.toList = l.take k := by simp
      have hskz : ((⟨l.toArray⟩ : ByteArray).extract 0 k).size = k := by rw [← size_list, hsk, List.length_take]; omega
      have hsd : ((⟨l.toArray⟩ : ByteArray).extract k l.length) = ⟨(l.drop k).toArray⟩ := by
        have : ((⟨l.toArray⟩ : ByteArray).extract k l.length).data.toList = l.drop k := by
          simp
          exact List.take_of_length_le (by simp)
        cases hx : (⟨l.toArray⟩ : ByteArray).extract k l.length with
        | mk a => rw [hx] at this; simp only at this; rw [← this]
      have hT := htk ((⟨l.toArray⟩ : ByteArray).extract 0 k) n (by rw [hskz]; omega) hn0 hn1 (by rw [hskz, hk])
      rw [hsk] at hT
      have HT := Lib.hid hT
      have hfin : nextL ck n l 0 = match ck.take (l.take k) n with | none => ([], l, 42) | some t => (t, l.drop k, 0) := by simp [nextL, hk, hlt]
      rw [hfin]
      have hle' : (k : Int) ≤ (l.length : Int) := by omega
      have hnlt : ¬ ((l.length : Int) < (k : Int)) := by omega
      have hk0 : (0 : Int) ≤ (k : Int) := by omega
      have HSD := Lib.hid hsd
      clear hsz htk hfin hks hk hT hsk hskz hsd
      generalize hres : ck.take (l.take k) n = res at HT ⊢
      clear hres
      cases res with
      | none =>
        go_enter Tryz.func135, Tryz.ntmps135
        go_wp2_with fail
        rw [HE1.out, Oper.upon_enter]
        refine (HS.out _).mono ?_
        rintro e_ w1 ⟨rfl, rfl⟩
        go_wp2_with fail
        go_region_held3 (fun w' => w'.cell? ⟨w.heap.size, 2, none⟩ = some (.func (.func g2) #[] q2) ∧ w'.cell? ⟨b, 0, none⟩ = some (.string ⟨l.toArray⟩)) (go_keep)
          (first | (rw [HE2.out, Oper.upon_enter]; refine (HT.out _ (fun p v h => keep1d h _)).mono ?_; rintro e_ w3 ⟨x, rfl, hx, hb3⟩; have hrd3 : Rd w3 b l 0 := blk_below (blk_drew (blk_alloc HRD.out _)) hb3; have h30 : w3.cell? ⟨b, 0, none⟩ = some (.string ⟨l.toArray⟩) := blk_cell hrd3 0; have h31 : w3.cell? ⟨b, 1, none⟩ = some (.int .i64 0) := blk_cell hrd3 1; have hf30 : w3.frozen? ⟨b, 0, none⟩ = false := blk_frozen hrd3 0; have hf31 : w3.frozen? ⟨b, 1, none⟩ = false := blk_frozen hrd3 1; have h3c : w3.cell? ⟨w.heap.size, 2, none⟩ = some (.func (.func g2) #[] q2) := (hb3.cell (by simp)).trans (by go_simp); have HT3 := Aside0.mk (Touch.of_below ((one_ w _).trans (hb3.mono (one_ w _).size)) b); have HRD3 := Aside0.mk hrd3; have HX := Lib.hid hx; clear hb3 hrd3 hx))
        go_wp2_with fail
        go_ret
        exact ⟨rfl, blk_set HRD3.out 1 _, HT3.out.trans (Touch.set _ _ _)⟩
      | some t =>
        go_enter Tryz.func135, Tryz.ntmps135
        go_wp2_with fail
        rw [HE1.out, Oper.upon_enter]
        refine (HS.out _).mono ?_
        rintro e_ w1 ⟨rfl, rfl⟩
        go_wp2_with fail
        go_region_held3 (fun w' => w'.cell? ⟨w.heap.size, 2, none⟩ = some (.func (.func g2) #[] q2) ∧ w'.cell? ⟨b, 0, none⟩ = some (.string ⟨l.toArray⟩)) (go_keep)
          (first | (rw [HE2.out, Oper.upon_enter]; refine (HT.out _ (fun p v h => keep1d h _)).mono ?_; rintro e_ w3 ⟨x, rfl, hx, hb3⟩; have hrd3 : Rd w3 b l 0 := blk_below (blk_drew (blk_alloc HRD.out _)) hb3; have h30 : w3.cell? ⟨b, 0, none⟩ = some (.string ⟨l.toArray⟩) := blk_cell hrd3 0; have h31 : w3.cell? ⟨b, 1, none⟩ = some (.int .i64 0) := blk_cell hrd3 1; have hf30 : w3.frozen? ⟨b, 0, none⟩ = false := blk_frozen hrd3 0; have hf31 : w3.frozen? ⟨b, 1, none⟩ = false := blk_frozen hrd3 1; have h3c : w3.cell? ⟨w.heap.size, 2, none⟩ = some (.func (.func g2) #[] q2) := (hb3.cell (by simp)).trans (by go_simp); have HT3 := Aside0.mk (Touch.of_below ((one_ w _).trans (hb3.mono (one_ w _).size)) b); have HRD3 := Aside0.mk hrd3; have HX := Lib.hid hx; clear hb3 hrd3 hx))
        go_wp2_with fail
        rw [HSD.out, HX.out t rfl]
        go_ret
        exact ⟨rfl, blk_set HRD3.out 0 _, HT3.out.trans (Touch.set _ _ _)⟩
  · have hfin : nextL ck n l e = ([], l, e) := by simp [nextL, hez]
    rw [hfin]
    have hne : (e != 0) = true := by simpa using hez
    clear hsz htk hez hfin hks hk
    go_enter Tryz.func135, Tryz.ntmps135
    go_wp2_with fail
    rw [HE1.out, Oper.upon_enter]
    refine (HS.out _).mono ?_
    rintro e_ w1 ⟨rfl, rfl⟩
    go_wp2_with fail
    go_ret
    exact ⟨rfl, blk_alloc HRD.out _, Touch.of_below ((Below.refl _ _).alloc (Nat.le_refl _) _) _⟩
end Go.Proofs.YtommklkihjmgcaaGreatDoor.fieldw
namespace Go.Proofs.YtommklkihjmgcaaGreatDoor.fieldw
open Go.RowKit Go.Proofs.YtommklkihjmgcaaGreatDoor.fieldp Go.Proofs.YtommklkihjmgcaaGreatDoorW.PrintWords Go.Proofs.YtommklkihjmgcaaGreatDoorW.PrintLast

/-- Two digits as a number. -/
def toldN (t : List UInt8) : Int := 10 * ((t.getD 0 0 - 48).toNat : Int) + ((t.getD 1 0 - 48).toNat : Int)
/-- What a form's bytes say, what is left, what is wrong. -/
def textL (k n c : Int) (l : List UInt8) : List UInt8 × List UInt8 × Int :=
  if k = 5 then
    if (l.length : Int) < (lettersC c).size 1 + (digitsC c).size n then ([], l, 43)
    else ((nextL (lettersC c) 1 l 0).1 ++ (nextL (digitsC c) n (nextL (lettersC c) 1 l 0).2.1 (nextL (lettersC c) 1 l 0).2.2).1, (nextL (digitsC c) n (nextL (lettersC c) 1 l 0).2.1 (nextL (lettersC c) 1 l 0).2.2).2)
  else if k = 2 then
    if (nextL (digitsC c) 2 l 0).2.2 ≠ 0 then ([], (nextL (digitsC c) 2 l 0).2)
    else nextL (digitsC c) (toldN (nextL (digitsC c) 2 l 0).1) (nextL (digitsC c) 2 l 0).2.1 (if toldN (nextL (digitsC c) 2 l 0).1 < 1 ∨ n < toldN (nextL (digitsC c) 2 l 0).1 then 42 else 0)
  else if k = 1 then nextL (digitsC c) n l 0
  else if k = 3 then nextL (lettersC c) n l 0
  else nextL (rawC c) (2 * n) l 0

theorem digits_ok (c : Int) : takeOkC (digitsC c) := by
  unfold digitsC
  split
  · exact Nat.le_refl _
  · split
    · trivial
    · show eb10.size ≤ tenB.size
      decide
theorem raws_ok (c : Int) : takeOkC (rawC c) := by
  unfold rawC
  split
  · show highB.size ≤ lowB.size
    decide
  · trivial
theorem letters_okT (c : Int) : takeOkC (lettersC c) := by
  unfold lettersC
  split
  · exact Nat.le_refl _
  · split
    · exact Nat.le_refl _
    · show ebcB.size ≤ signsB.size
      decide
theorem CodeAt.form {w : World} {lo : Nat} {v : Value} {ck : CK} (h : CodeAt w lo v ck) : ∃ g0 q0 g1 g2 q2, v = .agg #[.func (.func g0) #[] q0, .func (.func g1) #[] #[], .func (.func g2) #[] q2] := by
  cases ck with
  | plain f t =>
    obtain ⟨a, b, e, _⟩ := h
    exact ⟨_, _, _, _, _, e⟩
  | packed d =>
    obtain ⟨a, e, _⟩ := h
    exact ⟨_, _, _, _, _, e⟩
theorem CodeAt.touch {w w' : World} {lo b : Nat} {v : Value} {c : CK} (h : CodeAt w lo v c) (hb : b < lo) (ht : Touch b w w') : CodeAt w' lo v c := by
  cases c with
  | plain f t =>
    obtain ⟨a, b', e, h1, h2, h3, h4⟩ := h
    exact ⟨a, b', e, ht.cell (by show a ≠ b; omega) h1, ht.cell (by show b' ≠ b; omega) h2, h3, h4⟩
  | packed d =>
    obtain ⟨a, e, h1, h2⟩ := h
    exact ⟨a, e, ht.cell (by show a ≠ b; omega) h1, h2⟩
theorem thr (w2 : World) (o1 o2 o3 : Obj) : Below w2.heap.size w2 (((w2.alloc o1).alloc o2).alloc o3) :=
  (((Below.refl _ _).alloc (Nat.le_refl _) _).alloc (by simp) _).alloc (by simp; omega) _

theorem inRow_at {row : List UInt8} {i : Nat} (h : i < row.length) : inRow row (row.getD i 0) = true := by
  unfold inRow
  rw [decide_eq_true_iff]
  intro e
  apply Lib.indexByte_none e i
  rw [List.getD_eq_getElem?_getD, List.getElem?_eq_getElem h]
  rfl
theorem turnL_all (fr tt : List UInt8) (hft : fr.length ≤ tt.length) : ∀ (l a : List UInt8), turnL fr tt l = some a → a.all (inRow tt) = true
  | [], a, h => by simp [turnL] at h; subst h; rfl
  | c :: l, a, h => by
    simp only [turnL] at h
    split at h
    · cases h
    · rename_i hne
      cases e : turnL fr tt l with
      | none => rw [e] at h; cases h
      | some b =>
        rw [e] at h
        simp only [Option.map_some, Option.some.injEq] at h
        subst h
        have hi : (Lib.indexByte fr c).toNat < fr.length := by
          have h1 := Lib.indexByte_ge fr c
          have h2 := (Lib.indexByte_some (l := fr) (c := c) (o := (Lib.indexByte fr c).toNat) (by omega)).1
          exact (List.getElem?_eq_some_iff.1 h2).1
        simp only [List.all_cons, Bool.and_eq_true]
        exact ⟨inRow_at (by omega), turnL_all fr tt hft l b e⟩
theorem digits_take {c n : Int} {l t : List UInt8} (hn : 0 ≤ n) (hl : (l.length : Int) = (digitsC c).size n) (h : (digitsC c).take l n = some t) : t.all (inRow tenL) = true ∧ (t.length : Int) = n := by
  unfold digitsC at hl h
  split at h
  · rename_i h1
    rw [if_pos h1] at hl
    have hl' : (l.length : Int) = n := hl
    have h' : turnL tenL tenL l = some t := h
    exact ⟨turnL_all _ _ (Nat.le_refl _) _ _ h', by rw [turnL_length _ _ _ _ h']; exact hl'⟩
  · rename_i h1
    rw [if_neg h1] at hl
    split at h
    · have h' : takePacked tenL l n.toNat = some t := h
      unfold takePacked at h'
      have : ofB t tenL n.toNat = true := by
        split at h'
        · split at h'
          · split at h'
            · cases h'; assumption
            · cases h'
          · cases h'
        · split at h'
          · cases h'; assumption
          · cases h'
      obtain ⟨a, b⟩ := ofB_all this
      exact ⟨a, by omega⟩
    · rename_i h2
      rw [if_neg h2] at hl
      have hl' : (l.length : Int) = n := hl
      have h' : turnL eb10.data.toList tenL l = some t := h
      exact ⟨turnL_all _ _ (by decide) _ _ h', by rw [turnL_length _ _ _ _ h']; exact hl'⟩
theorem size_nonneg (ck : CK) {n : Int} (h : 0 ≤ n) : 0 ≤ ck.size n := by
  cases ck with
  | plain f t => exact h
  | packed d => show 0 ≤ (n + 1) / 2; omega
set_option maxRecDepth 100000 in
theorem ten_val {x : UInt8} (h : inRow tenL x = true) : ∃ i : Nat, i ≤ 9 ∧ x = UInt8.ofNat (48 + i) := by
  have : ∀ i : Fin 256, inRow tenL (UInt8.ofNat i.1) = true → 48 ≤ i.1 ∧ i.1 ≤ 57 := by decide
  have h2 := this ⟨x.toNat, x.toNat_lt⟩ (by rw [UInt8.ofNat_toNat]; exact h)
  refine ⟨x.toNat - 48, by have := h2.2; simp only at this; omega, ?_⟩
  have h3 := h2.1
  simp only at h3
  rw [show 48 + (x.toNat - 48) = x.toNat by omega, UInt8.ofNat_toNat]
theorem toldN_at (i j : Nat) (hi : i ≤ 9) (hj : j ≤ 9) : toldN [UInt8.ofNat (48 + i), UInt8.ofNat (48 + j)] = 10 * (i : Int) + (j : Int) := by
  have : ∀ i j : Fin 10, toldN [UInt8.ofNat (48 + i.1), UInt8.ofNat (48 + j.1)] = 10 * (i.1 : Int) + (j.1 : Int) := by decide
  exact this ⟨i, by omega⟩ ⟨j, by omega⟩
theorem nat_at (i : Nat) (hi : i ≤ 9) : ((UInt8.ofNat (48 + i)).toNat : Int) = 48 + (i : Int) := by
  rw [UInt8.toNat_ofNat_of_lt' (by show 48 + i < 256; omega)]
  omega
theorem next_digits {c n : Int} {l : List UInt8} (hn : 0 ≤ n) (h : (nextL (digitsC c) n l 0).2.2 = 0) : (nextL (digitsC c) n l 0).1.all (inRow tenL) = true ∧ ((nextL (digitsC c) n l 0).1.length : Int) = n := by
  unfold nextL at h ⊢
  have hs := size_nonneg (digitsC c) hn
  rw [if_neg (by decide)] at h ⊢
  split at h
  · cases h
  · rename_i hlt
    rw [if_neg hlt]
    cases e : (digitsC c).take (l.take ((digitsC c).size n).toNat) n with
    | none => rw [e] at h; cases h
    | some t =>
      exact digits_take hn (by rw [List.length_take]; omega) e

set_option maxHeartbeats 4000000 in
set_option maxRecDepth 100000 in
theorem text_n (n c : Int) (b : Nat) (l : List UInt8) (w : World) (hrd : Rd w b l 0) (hn0 : 1 ≤ n) (hn1 : n ≤ 64) :
    Calls Tryz.prog 117 #[.pointer (some ⟨b, 0, none⟩), .agg #[.int .i64 1, .int .i64 n, .int .i64 c]] w (nextPost w b (textL 1 n c l)) := by
  have e : textL 1 n c l = nextL (digitsC c) n l 0 := by simp [textL]
  rw [e]
  clear e
  have HC := Lib.hid (codes_any 1 n c)
  have HRD := Aside0.mk hrd
  have hblt : b < w.heap.size := (Array.getElem?_eq_some_iff.1 hrd).1
  clear hrd
  go_enter Tryz.func117, Tryz.ntmps117
  go_wp2_with fail
  refine (HC.out _).mono ?_
  rintro e w2 ⟨vl, vd, vr, rfl, hcl, hcd, hcr, hb2⟩
  have hz2 : w.heap.size < w2.heap.size := by have := hb2.size; simp at this; omega
  have HRD2 := Aside0.mk (show Rd w2 b l 0 from blk_below (blk_alloc HRD.out _) hb2)
  obtain ⟨x0, x1, x2, x3, x4, rfl⟩ := hcl.form
  obtain ⟨y0, y1, y2, y3, y4, rfl⟩ := hcr.form
  obtain ⟨z0, z1, z2, z3, z4, rfl⟩ := hcd.form
  have hk0 : w2.cell? ⟨w.heap.size, 0, none⟩ = some (.int .i64 1) := by rw [hb2.cell (p := ⟨w.heap.size, 0, none⟩) (by simp)]; go_simp
  have hk1 : w2.cell? ⟨w.heap.size, 1, none⟩ = some (.int .i64 n) := by rw [hb2.cell (p := ⟨w.heap.size, 1, none⟩) (by simp)]; go_simp
  have hk0' := fun o1 o2 o3 => keep3 hk0 o1 o2 o3
  have hk1' := fun o1 o2 o3 => keep3 hk1 o1 o2 o3
  have HT2 := Aside0.mk (Touch.of_below (((Below.refl w.heap.size w).alloc (Nat.le_refl _) _).trans (hb2.mono (by simp))) b)
  have HCL := Aside0.mk hcl
  have HCD := Aside0.mk hcd
  have HCR := Aside0.mk hcr
  clear hb2 hcl hcd hcr hk0 hk1
  go_wp2_with fail
  refine (next_any (HCD.out.below (thr _ _ _ _)) (digits_ok c) b l 0 n (show Rd _ b l 0 from blk_below HRD2.out (thr _ _ _ _)) (by omega) (by omega)).mono ?_
  rintro e w3 ⟨rfl, hrd3, ht3⟩
  have HRD3 := Aside0.mk hrd3
  have HT3 := Aside0.mk (HT2.out.trans ((Touch.of_below (thr _ _ _ _) b).trans ht3))
  clear hrd3 ht3
  go_wp2_with fail
  go_ret
  exact ⟨rfl, HRD3.out, HT3.out⟩
set_option maxHeartbeats 4000000 in
set_option maxRecDepth 100000 in
theorem text_an (n c : Int) (b : Nat) (l : List UInt8) (w : World) (hrd : Rd w b l 0) (hn0 : 1 ≤ n) (hn1 : n ≤ 64) :
    Calls Tryz.prog 117 #[.pointer (some ⟨b, 0, none⟩), .agg #[.int .i64 3, .int .i64 n, .int .i64 c]] w (nextPost w b (textL 3 n c l)) := by
  have e : textL 3 n c l = nextL (lettersC c) n l 0 := by simp [textL]
  rw [e]
  clear e
  have HC := Lib.hid (codes_any 3 n c)
  have HRD := Aside0.mk hrd
  have hblt : b < w.heap.size := (Array.getElem?_eq_some_iff.1 hrd).1
  clear hrd
  go_enter Tryz.func117, Tryz.ntmps117
  go_wp2_with fail
  refine (HC.out _).mono ?_
  rintro e w2 ⟨vl, vd, vr, rfl, hcl, hcd, hcr, hb2⟩
  have hz2 : w.heap.size < w2.heap.size := by have := hb2.size; simp at this; omega
  have HRD2 := Aside0.mk (show Rd w2 b l 0 from blk_below (blk_alloc HRD.out _) hb2)
  obtain ⟨x0, x1, x2, x3, x4, rfl⟩ := hcl.form
  obtain ⟨y0, y1, y2, y3, y4, rfl⟩ := hcr.form
  obtain ⟨z0, z1, z2, z3, z4, rfl⟩ := hcd.form
  have hk0 : w2.cell? ⟨w.heap.size, 0, none⟩ = some (.int .i64 3) := by rw [hb2.cell (p := ⟨w.heap.size, 0, none⟩) (by simp)]; go_simp
  have hk1 : w2.cell? ⟨w.heap.size, 1, none⟩ = some (.int .i64 n) := by rw [hb2.cell (p := ⟨w.heap.size, 1, none⟩) (by simp)]; go_simp
  have hk0' := fun o1 o2 o3 => keep3 hk0 o1 o2 o3
  have hk1' := fun o1 o2 o3 => keep3 hk1 o1 o2 o3
  have HT2 := Aside0.mk (Touch.of_below (((Below.refl w.heap.size w).alloc (Nat.le_refl _) _).trans (hb2.mono (by simp))) b)
  have HCL := Aside0.mk hcl
  have HCD := Aside0.mk hcd
  have HCR := Aside0.mk hcr
  clear hb2 hcl hcd hcr hk0 hk1
  go_wp2_with fail
  refine (next_any (HCL.out.below (thr _ _ _ _)) (letters_okT c) b l 0 n (show Rd _ b l 0 from blk_below HRD2.out (thr _ _ _ _)) (by omega) (by omega)).mono ?_
  rintro e w3 ⟨rfl, hrd3, ht3⟩
  have HRD3 := Aside0.mk hrd3
  have HT3 := Aside0.mk (HT2.out.trans ((Touch.of_below (thr _ _ _ _) b).trans ht3))
  clear hrd3 ht3
  go_wp2_with fail
  go_ret
  exact ⟨rfl, HRD3.out, HT3.out⟩
set_option maxHeartbeats 4000000 in
set_option maxRecDepth 100000 in
theorem text_b (n c : Int) (b : Nat) (l : List UInt8) (w : World) (hrd : Rd w b l 0) (hn0 : 1 ≤ n) (hn1 : n ≤ 64) :
    Calls Tryz.prog 117 #[.pointer (some ⟨b, 0, none⟩), .agg #[.int .i64 4, .int .i64 n, .int .i64 c]] w (nextPost w b (textL 4 n c l)) := by
  have e : textL 4 n c l = nextL (rawC c) (2 * n) l 0 := by simp [textL]
  rw [e]
  clear e
  have HC := Lib.hid (codes_any 4 n c)
  have HRD := Aside0.mk hrd
  have hblt : b < w.heap.size := (Array.getElem?_eq_some_iff.1 hrd).1
  clear hrd
  go_enter Tryz.func117, Tryz.ntmps117
  go_wp2_with fail
  refine (HC.out _).mono ?_
  rintro e w2 ⟨vl, vd, vr, rfl, hcl, hcd, hcr, hb2⟩
  have hz2 : w.heap.size < w2.heap.size := by have := hb2.size; simp at this; omega
  have HRD2 := Aside0.mk (show Rd w2 b l 0 from blk_below (blk_alloc HRD.out _) hb2)
  obtain ⟨x0, x1, x2, x3, x4, rfl⟩ := hcl.form
  obtain ⟨y0, y1, y2, y3, y4, rfl⟩ := hcr.form
  obtain ⟨z0, z1, z2, z3, z4, rfl⟩ := hcd.form
  have hk0 : w2.cell? ⟨w.heap.size, 0, none⟩ = some (.int .i64 4) := by rw [hb2.cell (p := ⟨w.heap.size, 0, none⟩) (by simp)]; go_simp
  have hk1 : w2.cell? ⟨w.heap.size, 1, none⟩ = some (.int .i64 n) := by rw [hb2.cell (p := ⟨w.heap.size, 1, none⟩) (by simp)]; go_simp
  have hk0' := fun o1 o2 o3 => keep3 hk0 o1 o2 o3
  have hk1' := fun o1 o2 o3 => keep3 hk1 o1 o2 o3
  have HT2 := Aside0.mk (Touch.of_below (((Below.refl w.heap.size w).alloc (Nat.le_refl _) _).trans (hb2.mono (by simp))) b)
  have HCL := Aside0.mk hcl
  have HCD := Aside0.mk hcd
  have HCR := Aside0.mk hcr
  clear hb2 hcl hcd hcr hk0 hk1
  go_wp2_with fail
  refine (next_any (HCR.out.below (thr _ _ _ _)) (raws_ok c) b l 0 (2 * n) (show Rd _ b l 0 from blk_below HRD2.out (thr _ _ _ _)) (by omega) (by omega)).mono ?_
  rintro e w3 ⟨rfl, hrd3, ht3⟩
  have HRD3 := Aside0.mk hrd3
  have HT3 := Aside0.mk (HT2.out.trans ((Touch.of_below (thr _ _ _ _) b).trans ht3))
  clear hrd3 ht3
  go_wp2_with fail
  go_ret
  exact ⟨rfl, HRD3.out, HT3.out⟩
set_option maxHeartbeats 4000000 in
set_option maxRecDepth 100000 in
theorem text_ll (n c : Int) (b : Nat) (l : List UInt8) (w : World) (hrd : Rd w b l 0) (_hn0 : 1 ≤ n) (_hn1 : n ≤ 64) :
    Calls Tryz.prog 117 #[.pointer (some ⟨b, 0, none⟩), .agg #[.int .i64 2, .int .i64 n, .int .i64 c]] w (nextPost w b (textL 2 n c l)) := by
  have HE : Hid (textL 2 n c l = if (nextL (digitsC c) 2 l 0).2.2 ≠ 0 then ([], (nextL (digitsC c) 2 l 0).2)
    else nextL (digitsC c) (toldN (nextL (digitsC c) 2 l 0).1) (nextL (digitsC c) 2 l 0).2.1 (if toldN (nextL (digitsC c) 2 l 0).1 < 1 ∨ n < toldN (nextL (digitsC c) 2 l 0).1 then 42 else 0)) := Lib.hid (by simp [textL])
  generalize textL 2 n c l = R at HE ⊢
  have HC := Lib.hid (codes_any 2 n c)
  have HRD := Aside0.mk hrd
  have hblt : b < w.heap.size := (Array.getElem?_eq_some_iff.1 hrd).1
  clear hrd
  go_enter Tryz.func117, Tryz.ntmps117
  go_wp2_with fail
  refine (HC.out _).mono ?_
  rintro e w2 ⟨vl, vd, vr, rfl, hcl, hcd, hcr, hb2⟩
  have hz2 : w.heap.size < w2.heap.size := by have := hb2.size; simp at this; omega
  have HRD2 := Aside0.mk (show Rd w2 b l 0 from blk_below (blk_alloc HRD.out _) hb2)
  obtain ⟨x0, x1, x2, x3, x4, rfl⟩ := hcl.form
  obtain ⟨y0, y1, y2, y3, y4, rfl⟩ := hcr.form
  obtain ⟨z0, z1, z2, z3, z4, rfl⟩ := hcd.form
  have hk0 : w2.cell? ⟨w.heap.size, 0, none⟩ = some (.int .i64 2) := by rw [hb2.cell (p := ⟨w.heap.size, 0, none⟩) (by simp)]; go_simp
  have hk1 : w2.cell? ⟨w.heap.size, 1, none⟩ = some (.int .i64 n) := by rw [hb2.cell (p := ⟨w.heap.size, 1, none⟩) (by simp)]; go_simp
  have hk0' := fun o1 o2 o3 => keep3 hk0 o1 o2 o3
  have hk1' := fun o1 o2 o3 => keep3 hk1 o1 o2 o3
  have HT2 := Aside0.mk (Touch.of_below (((Below.refl w.heap.size w).alloc (Nat.le_refl _) _).trans (hb2.mono (by simp))) b)
  have HCL := Aside0.mk hcl
  have HCD := Aside0.mk hcd
  have HCR := Aside0.mk hcr
  clear hb2 hcl hcd hcr hk0 hk1
  go_wp2_with fail
  refine (next_any (HCD.out.below (thr _ _ _ _)) (digits_ok c) b l 0 2 (show Rd _ b l 0 from blk_below HRD2.out (thr _ _ _ _)) (by omega) (by omega)).mono ?_
  rintro e w3 ⟨rfl, hrd3, ht3⟩
  have hd := fun h => next_digits (c := c) (n := 2) (l := l) (by decide) h
  generalize nextL (digitsC c) 2 l 0 = a at hd HE hrd3 ⊢
  obtain ⟨t, l', e'⟩ := a
  simp only at hd hrd3 ⊢
  have HRD3 := Aside0.mk hrd3
  have hr31 : w3.cell? ⟨b, 1, none⟩ = some (.int .i64 e') := blk_cell hrd3 1
  have hrf1 : w3.frozen? ⟨b, 1, none⟩ = false := blk_frozen hrd3 1
  have HT3 := Aside0.mk (HT2.out.trans ((Touch.of_below (thr _ _ _ _) b).trans ht3))
  have hf1 : w3.cell? ⟨w.heap.size, 1, none⟩ = some (.int .i64 n) := ht3.cell (by show w.heap.size ≠ b; omega) (hk1' _ _ _)
  have hbx0 : w3.cell? ⟨w2.heap.size + 1, 0, none⟩ = some (.func (.func z0) #[] z1) := ht3.cell (by show w2.heap.size + 1 ≠ b; omega) (by go_simp)
  have hbx1 : w3.cell? ⟨w2.heap.size + 1, 1, none⟩ = some (.func (.func z2) #[] #[]) := ht3.cell (by show w2.heap.size + 1 ≠ b; omega) (by go_simp)
  have hbx2 : w3.cell? ⟨w2.heap.size + 1, 2, none⟩ = some (.func (.func z3) #[] z4) := ht3.cell (by show w2.heap.size + 1 ≠ b; omega) (by go_simp)
  have HCD3 := Aside0.mk ((HCD.out.below (thr _ _ _ _)).touch (b := b) (by simp; omega) ht3)
  clear ht3 hrd3 hk0' hk1'
  by_cases he : e' = 0
  · subst he
    obtain ⟨hall, hlen⟩ := hd rfl
    have hlen' : t.length = 2 := by omega
    obtain ⟨x, y, rfl⟩ : ∃ x y, t = [x, y] := by
      match t, hlen' with
      | [x, y], _ => exact ⟨x, y, rfl⟩
    clear hd hlen hlen'
    simp only [List.all_cons, List.all_nil, Bool.and_true, Bool.and_eq_true] at hall
    obtain ⟨i, hi, rfl⟩ := ten_val hall.1
    obtain ⟨j, hj, rfl⟩ := ten_val hall.2
    clear hall
    rw [toldN_at i j hi hj] at HE
    have hx := nat_at i hi
    have hy := nat_at j hj
    generalize UInt8.ofNat (48 + i) = x at *
    generalize UInt8.ofNat (48 + j) = y at *
    have hw1 : IntKind.u8.wrap ((x.toNat : Int) - 48) = (i : Int) := by rw [hx, show (48 + (i : Int) - 48) = (i : Int) by omega]; exact IntWalk.u8_in _ (by omega)
    have hw2 : IntKind.u8.wrap ((y.toNat : Int) - 48) = (j : Int) := by rw [hy, show (48 + (j : Int) - 48) = (j : Int) by omega]; exact IntWalk.u8_in _ (by omega)
    have hw3 : IntKind.i64.wrap ((i : Int) * 10) = (i : Int) * 10 := IntWalk.i64_in _ (by omega)
    have hw4 : IntKind.i64.wrap ((i : Int) * 10 + (j : Int)) = (i : Int) * 10 + (j : Int) := IntWalk.i64_in _ (by omega)
    have hw5 : IntKind.i64.wrap (i : Int) = (i : Int) := IntWalk.i64_in _ (by omega)
    have hw6 : IntKind.i64.wrap (j : Int) = (j : Int) := IntWalk.i64_in _ (by omega)
    go_wp2_with fail
    go_region
    have hV : ((((⟨#[x, y]⟩ : ByteArray)[0]'(show 0 < 2 by decide)).toNat : Int) - (48 : Int)) % (256 : Int) * (10 : Int) + ((((⟨#[x, y]⟩ : ByteArray)[1]'(show 1 < 2 by decide)).toNat : Int) - (48 : Int)) % (256 : Int) = 10 * (i : Int) + (j : Int) := by
      show ((x.toNat : Int) - 48) % 256 * 10 + ((y.toNat : Int) - 48) % 256 = _
      omega
    rw [hV]
    clear hV hw1 hw2 hw3 hw4 hw5 hw6
    have hm0 : 0 ≤ 10 * (i : Int) + (j : Int) := by omega
    have hm1 : 10 * (i : Int) + (j : Int) ≤ 99 := by omega
    generalize 10 * (i : Int) + (j : Int) = m at *
    clear hx hy
    by_cases hb1 : m < 1
    · have hR : R = nextL (digitsC c) m l' 42 := by rw [HE.out]; simp [hb1]
      subst hR
      go_wp2_with fail
      refine (next_any (HCD3.out.touch (b := b) (by simp; omega) ((Touch.set w3 1 (.int .i64 42)).trans (Touch.of_below (Below.refl _ _).drew b))) (digits_ok c) b l' 42 m (blk_drew (blk_set HRD3.out 1 (.int .i64 42))) (by omega) (by omega)).mono ?_
      rintro e w4 ⟨rfl, hrd4, ht4⟩
      have HRD4 := Aside0.mk hrd4
      have HT4 := Aside0.mk (HT3.out.trans (((Touch.set w3 1 (.int .i64 42)).trans (Touch.of_below (Below.refl _ _).drew b)).trans ht4))
      clear hrd4 ht4
      go_wp2_with fail
      go_ret
      exact ⟨rfl, HRD4.out, HT4.out⟩
    · by_cases hb2 : n < m
      · have hR : R = nextL (digitsC c) m l' 42 := by rw [HE.out]; simp [hb2]
        subst hR
        go_wp2_with fail
        refine (next_any (HCD3.out.touch (b := b) (by simp; omega) ((Touch.set w3 1 (.int .i64 42)).trans (Touch.of_below (Below.refl _ _).drew b))) (digits_ok c) b l' 42 m (blk_drew (blk_set HRD3.out 1 (.int .i64 42))) (by omega) (by omega)).mono ?_
        rintro e w4 ⟨rfl, hrd4, ht4⟩
        have HRD4 := Aside0.mk hrd4
        have HT4 := Aside0.mk (HT3.out.trans (((Touch.set w3 1 (.int .i64 42)).trans (Touch.of_below (Below.refl _ _).drew b)).trans ht4))
        clear hrd4 ht4
        go_wp2_with fail
        go_ret
        exact ⟨rfl, HRD4.out, HT4.out⟩
      · have hR : R = nextL (digitsC c) m l' 0 := by rw [HE.out]; simp [hb1, hb2]
        subst hR
        go_wp2_with fail
        refine (next_any (HCD3.out.touch (b := b) (by simp; omega) (Touch.of_below (Below.refl _ _).drew b)) (digits_ok c) b l' 0 m (blk_drew HRD3.out) (by omega) (by omega)).mono ?_
        rintro e w4 ⟨rfl, hrd4, ht4⟩
        have HRD4 := Aside0.mk hrd4
        have HT4 := Aside0.mk (HT3.out.trans ((Touch.of_below (Below.refl _ _).drew b).trans ht4))
        clear hrd4 ht4
        go_wp2_with fail
        go_ret
        exact ⟨rfl, HRD4.out, HT4.out⟩
  · have hne : (e' != 0) = true := by simpa using he
    have hR : R = ([], (l', e')) := by rw [HE.out, if_pos he]
    subst hR
    clear hd he HE
    go_wp2_with fail
    go_ret
    exact ⟨rfl, HRD3.out, HT3.out⟩
end Go.Proofs.YtommklkihjmgcaaGreatDoor.fieldw
namespace Go.Proofs.YtommklkihjmgcaaGreatDoor.fieldw
open Go.RowKit Go.Proofs.YtommklkihjmgcaaGreatDoor.fieldp Go.Proofs.YtommklkihjmgcaaGreatDoorW.PrintWords Go.Proofs.YtommklkihjmgcaaGreatDoorW.PrintLast

theorem size_range (ck : CK) {n : Int} (h : 0 ≤ n) (h1 : n ≤ 1000) : 0 ≤ ck.size n ∧ ck.size n ≤ 1000 := by
  cases ck with
  | plain f t => exact ⟨h, h1⟩
  | packed d => exact ⟨by show 0 ≤ (n + 1) / 2; omega, by show (n + 1) / 2 ≤ 1000; omega⟩

theorem join_arr (a b : List UInt8) : (⟨(a ++ b).toArray⟩ : ByteArray) = ⟨a.toArray⟩ ++ ⟨b.toArray⟩ := by
  have : ((⟨a.toArray⟩ : ByteArray) ++ ⟨b.toArray⟩).data = (a ++ b).toArray := by simp
  cases h : (⟨a.toArray⟩ : ByteArray) ++ ⟨b.toArray⟩ with
  | mk d => rw [h] at this; simp only at this; rw [this]
theorem take_len {ck : CK} {n : Int} {l t : List UInt8} (hn : 0 ≤ n) (hl : (l.length : Int) = ck.size n) (h : ck.take l n = some t) : (t.length : Int) = n := by
  cases ck with
  | plain f u =>
    have h' : turnL u.data.toList f.data.toList l = some t := h
    have hl' : (l.length : Int) = n := hl
    rw [turnL_length _ _ _ _ h']; exact hl'
  | packed d =>
    have h' : takePacked d.data.toList l n.toNat = some t := h
    unfold takePacked at h'
    have : ofB t d.data.toList n.toNat = true := by
      split at h'
      · split at h'
        · split at h'
          · cases h'; assumption
          · cases h'
        · cases h'
      · split at h'
        · cases h'; assumption
        · cases h'
    have := (ofB_all this).2
    omega
theorem next_len (ck : CK) {n : Int} (l : List UInt8) (e : Int) (hn : 0 ≤ n) : ((nextL ck n l e).1.length : Int) ≤ n := by
  unfold nextL
  split
  · exact hn
  · split
    · exact hn
    · rename_i hlt
      have hs := size_nonneg ck hn
      cases h : ck.take (l.take (ck.size n).toNat) n with
      | none => exact hn
      | some t =>
        have := take_len hn (by rw [List.length_take]; omega) h
        exact Int.le_of_eq this

set_option maxHeartbeats 4000000 in
set_option maxRecDepth 100000 in
theorem text_x (n c : Int) (b : Nat) (l : List UInt8) (w : World) (hrd : Rd w b l 0) (hn0 : 1 ≤ n) (hn1 : n ≤ 64) :
    Calls Tryz.prog 117 #[.pointer (some ⟨b, 0, none⟩), .agg #[.int .i64 5, .int .i64 n, .int .i64 c]] w (nextPost w b (textL 5 n c l)) := by
  have HE : Hid (textL 5 n c l = if (l.length : Int) < (lettersC c).size 1 + (digitsC c).size n then ([], l, 43)
    else ((nextL (lettersC c) 1 l 0).1 ++ (nextL (digitsC c) n (nextL (lettersC c) 1 l 0).2.1 (nextL (lettersC c) 1 l 0).2.2).1, (nextL (digitsC c) n (nextL (lettersC c) 1 l 0).2.1 (nextL (lettersC c) 1 l 0).2.2).2)) := Lib.hid (by simp [textL])
  generalize textL 5 n c l = R at HE ⊢
  have hn1a := next_len (lettersC c) l 0 (n := 1) (by decide)
  have hn2a := next_len (digitsC c) (nextL (lettersC c) 1 l 0).2.1 (nextL (lettersC c) 1 l 0).2.2 (n := n) (by omega)
  have hc1 := fun (W : World) (lo : Nat) (v : Value) (hc : CodeAt W lo v (lettersC c)) (hr : Rd W b l 0) => next_any hc (letters_okT c) b l 0 1 hr (by decide) (by decide)
  have hc2 := fun (W : World) (lo : Nat) (v : Value) (hc : CodeAt W lo v (digitsC c)) (hr : Rd W b (nextL (lettersC c) 1 l 0).2.1 (nextL (lettersC c) 1 l 0).2.2) => next_any hc (digits_ok c) b (nextL (lettersC c) 1 l 0).2.1 (nextL (lettersC c) 1 l 0).2.2 n hr (by omega) (by omega)
  generalize nextL (lettersC c) 1 l 0 = a1 at HE hn1a hn2a hc1 hc2
  obtain ⟨t1, l1, e1⟩ := a1
  simp only at HE hn1a hn2a hc1 hc2
  generalize nextL (digitsC c) n l1 e1 = a2 at HE hn2a hc2
  obtain ⟨t2, l2, e2⟩ := a2
  simp only at HE hn2a hc2
  obtain ⟨S1, hS1⟩ : ∃ S : ByteArray, S = ⟨t1.toArray⟩ := ⟨_, rfl⟩
  obtain ⟨S2, hS2⟩ : ∃ S : ByteArray, S = ⟨t2.toArray⟩ := ⟨_, rfl⟩
  have HS1 := Aside0.mk (show S1.size ≤ 1 ∧ S1 = ⟨t1.toArray⟩ from ⟨by rw [hS1, size_arr]; omega, hS1⟩)
  have HS2 := Aside0.mk (show S2.size ≤ 64 ∧ S2 = ⟨t2.toArray⟩ from ⟨by rw [hS2, size_arr]; omega, hS2⟩)
  have HC1 := Lib.hid (show ∀ (W : World) (lo : Nat) (v : Value), CodeAt W lo v (lettersC c) → Rd W b l 0 → Calls Tryz.prog 135 #[.pointer (some ⟨b, 0, none⟩), v, .int .i64 1] W (fun e w' => e = .returned (.string S1) ∧ Rd w' b l1 e1 ∧ Touch b W w') from by rw [hS1]; exact hc1)
  have HC2 := Lib.hid (show ∀ (W : World) (lo : Nat) (v : Value), CodeAt W lo v (digitsC c) → Rd W b l1 e1 → Calls Tryz.prog 135 #[.pointer (some ⟨b, 0, none⟩), v, .int .i64 n] W (fun e w' => e = .returned (.string S2) ∧ Rd w' b l2 e2 ∧ Touch b W w') from by rw [hS2]; exact hc2)
  clear hS1 hS2 hc1 hc2 hn1a hn2a
  have hs1 : 0 ≤ (lettersC c).size 1 ∧ (lettersC c).size 1 ≤ 1000 := size_range _ (by decide) (by decide)
  have hs2 : 0 ≤ (digitsC c).size n ∧ (digitsC c).size n ≤ 1000 := size_range _ (by omega) (by omega)
  have HC := Lib.hid (codes_any 5 n c)
  have HRD := Aside0.mk hrd
  have hblt : b < w.heap.size := (Array.getElem?_eq_some_iff.1 hrd).1
  clear hrd
  go_enter Tryz.func117, Tryz.ntmps117
  go_wp2_with fail
  refine (HC.out _).mono ?_
  rintro e w2 ⟨vl, vd, vr, rfl, hcl, hcd, hcr, hb2⟩
  have hz2 : w.heap.size < w2.heap.size := by have := hb2.size; simp at this; omega
  have HRD2 := Aside0.mk (show Rd w2 b l 0 from blk_below (blk_alloc HRD.out _) hb2)
  obtain ⟨x0, x1, x2, x3, x4, rfl, hex2, -, hxs, -⟩ := hcl.takes (letters_okT c)
  obtain ⟨y0, y1, y2, y3, y4, rfl⟩ := hcr.form
  obtain ⟨z0, z1, z2, z3, z4, rfl, hez2, -, hzs, -⟩ := hcd.takes (digits_ok c)
  have HX2 := Lib.hid hex2
  have HZ2 := Lib.hid hez2
  have HXS := Lib.hid (hxs 1 (by decide) (by decide))
  have HZS := Lib.hid (hzs n (by omega) (by omega))
  clear hex2 hez2 hxs hzs
  generalize (lettersC c).size 1 = k1 at HXS hs1 HE
  generalize (digitsC c).size n = k2 at HZS hs2 HE
  have hsum : IntKind.i64.wrap (k1 + k2) = k1 + k2 := IntWalk.i64_in _ (by omega)
  have hk0 : w2.cell? ⟨w.heap.size, 0, none⟩ = some (.int .i64 5) := by rw [hb2.cell (p := ⟨w.heap.size, 0, none⟩) (by simp)]; go_simp
  have hk1 : w2.cell? ⟨w.heap.size, 1, none⟩ = some (.int .i64 n) := by rw [hb2.cell (p := ⟨w.heap.size, 1, none⟩) (by simp)]; go_simp
  have hk0' := fun o1 o2 o3 => keep3 hk0 o1 o2 o3
  have hk1' := fun o1 o2 o3 => keep3 hk1 o1 o2 o3
  have HT2 := Aside0.mk (Touch.of_below (((Below.refl w.heap.size w).alloc (Nat.le_refl _) _).trans (hb2.mono (by simp))) b)
  have HCL := Aside0.mk hcl
  have HCD := Aside0.mk hcd
  have HCR := Aside0.mk hcr
  clear hb2 hcl hcd hcr hk0 hk1
  have hr0 : w2.cell? ⟨b, 0, none⟩ = some (.string ⟨l.toArray⟩) := blk_cell HRD2.out 0
  have hr0' := fun o1 o2 o3 => keep3 hr0 o1 o2 o3
  have hsl : (⟨l.toArray⟩ : ByteArray).size = l.length := size_arr l
  go_wp2_with fail
  go_region_held3 (fun w' => w'.cell? ⟨w2.heap.size, 1, none⟩ = some (.func (.func x2) #[] #[]) ∧ w'.cell? ⟨w2.heap.size + 1, 1, none⟩ = some (.func (.func z2) #[] #[]) ∧ w'.cell? ⟨b, 0, none⟩ = some (.string ⟨l.toArray⟩)) (go_keep)
    (first | (rw [HX2.out, Oper.upon_enter]; refine (HXS.out _).mono ?_; rintro e_ w3 ⟨rfl, rfl⟩) | (rw [HZ2.out, Oper.upon_enter]; refine (HZS.out _).mono ?_; rintro e_ w3 ⟨rfl, rfl⟩))
  all_goals
    by_cases hlt : (l.length : Int) < k1 + k2
    · have hR : R = ([], l, 43) := by rw [HE.out, if_pos hlt]
      subst hR
      have hrf1 : w2.frozen? ⟨b, 1, none⟩ = false := blk_frozen HRD2.out 1
      have hbl2 : b < w2.heap.size := by omega
      have hbl3 : b < w2.heap.size + 1 := by omega
      have hbl4 : b < w2.heap.size + 1 + 1 := by omega
      have hr12 : w2.cell? ⟨b, 1, none⟩ = some (.int .i64 0) := blk_cell HRD2.out 1
      clear HE
      go_wp2_with fail
      go_ret
      exact ⟨rfl, blk_drew (blk_alloc (blk_alloc (blk_alloc (blk_set HRD2.out 1 _) _) _) _), HT2.out.trans ((Touch.set w2 1 _).trans (Touch.of_below (thr _ _ _ _).drew b))⟩
    · have hR : R = (t1 ++ t2, l2, e2) := by rw [HE.out, if_neg hlt]
      subst hR
      have HW := Aside0.mk (show ∀ o1 o2 o3 : Obj, Rd ((((w2.alloc o1).alloc o2).alloc o3).drew.drew) b l 0 from fun o1 o2 o3 => blk_below HRD2.out ((thr _ _ _ _).drew.drew))
      have HWL := Aside0.mk (show ∀ o1 o2 o3 : Obj, CodeAt ((((w2.alloc o1).alloc o2).alloc o3).drew.drew) _ _ (lettersC c) from fun o1 o2 o3 => HCL.out.below ((thr _ _ _ _).drew.drew))
      have HWD := Aside0.mk (show ∀ o1 o2 o3 : Obj, CodeAt ((((w2.alloc o1).alloc o2).alloc o3).drew.drew) _ _ (digitsC c) from fun o1 o2 o3 => HCD.out.below ((thr _ _ _ _).drew.drew))
      have hs1 : S1.size ≤ 1 := HS1.out.1
      have hs2 : S2.size ≤ 64 := HS2.out.1
      have hss : ¬ 9223372036854775807 < S1.size + S2.size := by omega
      clear HE
      go_wp2_with fail
      go_region_held3 (fun w' => w'.cell? ⟨w2.heap.size, 0, none⟩ = some (.func (.func x0) #[] x1) ∧ w'.cell? ⟨w2.heap.size, 1, none⟩ = some (.func (.func x2) #[] #[]) ∧ w'.cell? ⟨w2.heap.size, 2, none⟩ = some (.func (.func x3) #[] x4) ∧ w'.cell? ⟨w2.heap.size + 1, 0, none⟩ = some (.func (.func z0) #[] z1) ∧ w'.cell? ⟨w2.heap.size + 1, 1, none⟩ = some (.func (.func z2) #[] #[]) ∧ w'.cell? ⟨w2.heap.size + 1, 2, none⟩ = some (.func (.func z3) #[] z4)) (go_keep)
        (first | (go_at_call 135; (with_reducible refine (HC1.out _ _ _ (HWL.out _ _ _) (HW.out _ _ _)).mono ?_); rintro e_ w4 ⟨rfl, hrd4, ht4⟩; have g00 : w4.cell? ⟨w2.heap.size, 0, none⟩ = some (.func (.func x0) #[] x1) := ht4.cell (by show w2.heap.size ≠ b; omega) (by go_simp); have g01 : w4.cell? ⟨w2.heap.size, 1, none⟩ = some (.func (.func x2) #[] #[]) := ht4.cell (by show w2.heap.size ≠ b; omega) (by go_simp); have g02 : w4.cell? ⟨w2.heap.size, 2, none⟩ = some (.func (.func x3) #[] x4) := ht4.cell (by show w2.heap.size ≠ b; omega) (by go_simp); have g10 : w4.cell? ⟨w2.heap.size + 1, 0, none⟩ = some (.func (.func z0) #[] z1) := ht4.cell (by show w2.heap.size + 1 ≠ b; omega) (by go_simp); have g11 : w4.cell? ⟨w2.heap.size + 1, 1, none⟩ = some (.func (.func z2) #[] #[]) := ht4.cell (by show w2.heap.size + 1 ≠ b; omega) (by go_simp); have g12 : w4.cell? ⟨w2.heap.size + 1, 2, none⟩ = some (.func (.func z3) #[] z4) := ht4.cell (by show w2.heap.size + 1 ≠ b; omega) (by go_simp); have HCD4 := Aside0.mk ((HWD.out _ _ _).touch (b := b) (by simp; omega) ht4); have HT4 := Aside0.mk (HT2.out.trans ((Touch.of_below ((thr _ _ _ _).drew.drew) b).trans ht4)); have HRD4 := Aside0.mk hrd4; clear ht4 hrd4) | (go_at_call 135; (with_reducible refine (HC2.out _ _ _ HCD4.out HRD4.out).mono ?_); rintro e_ w5 ⟨rfl, hrd5, ht5⟩; have k00 : w5.cell? ⟨w2.heap.size, 0, none⟩ = some (.func (.func x0) #[] x1) := ht5.cell (by show w2.heap.size ≠ b; omega) g00; have k01 : w5.cell? ⟨w2.heap.size, 1, none⟩ = some (.func (.func x2) #[] #[]) := ht5.cell (by show w2.heap.size ≠ b; omega) g01; have k02 : w5.cell? ⟨w2.heap.size, 2, none⟩ = some (.func (.func x3) #[] x4) := ht5.cell (by show w2.heap.size ≠ b; omega) g02; have k10 : w5.cell? ⟨w2.heap.size + 1, 0, none⟩ = some (.func (.func z0) #[] z1) := ht5.cell (by show w2.heap.size + 1 ≠ b; omega) g10; have k11 : w5.cell? ⟨w2.heap.size + 1, 1, none⟩ = some (.func (.func z2) #[] #[]) := ht5.cell (by show w2.heap.size + 1 ≠ b; omega) g11; have k12 : w5.cell? ⟨w2.heap.size + 1, 2, none⟩ = some (.func (.func z3) #[] z4) := ht5.cell (by show w2.heap.size + 1 ≠ b; omega) g12; have HT5 := Aside0.mk (HT4.out.trans ht5); have HRD5 := Aside0.mk hrd5; clear ht5 hrd5))
      go_wp2_with fail
      go_ret
      exact ⟨by rw [show (⟨(t1 ++ t2).toArray⟩ : ByteArray) = S1 ++ S2 from by rw [HS1.out.2, HS2.out.2]; exact join_arr t1 t2]; rfl, HRD5.out, HT5.out⟩

end Go.Proofs.YtommklkihjmgcaaGreatDoor.fieldw
namespace Go.Proofs.YtommklkihjmgcaaGreatDoor.fieldw
open Go.RowKit Go.Proofs.YtommklkihjmgcaaGreatDoor.fieldp Go.Proofs.YtommklkihjmgcaaGreatDoorW.PrintWords Go.Proofs.YtommklkihjmgcaaGreatDoorW.PrintLast

theorem text_any (k n c : Int) (b : Nat) (l : List UInt8) (w : World) (hrd : Rd w b l 0) (hm : mayB k n c = true) :
    Calls Tryz.prog 117 #[.pointer (some ⟨b, 0, none⟩), .agg #[.int .i64 k, .int .i64 n, .int .i64 c]] w (nextPost w b (textL k n c l)) := by
  have h : 1 ≤ k ∧ k ≤ 5 ∧ 1 ≤ n ∧ n ≤ 64 ∧ 1 ≤ c ∧ c ≤ 3 := by simpa [mayB] using hm
  rcases (show k = 1 ∨ k = 2 ∨ k = 3 ∨ k = 4 ∨ k = 5 by omega) with rfl | rfl | rfl | rfl | rfl
  · exact text_n n c b l w hrd h.2.2.1 h.2.2.2.1
  · exact text_ll n c b l w hrd h.2.2.1 h.2.2.2.1
  · exact text_an n c b l w hrd h.2.2.1 h.2.2.2.1
  · exact text_b n c b l w hrd h.2.2.1 h.2.2.2.1
  · exact text_x n c b l w hrd h.2.2.1 h.2.2.2.1
theorem toldN_range (t : List UInt8) : 0 ≤ toldN t ∧ toldN t ≤ 2805 := by
  unfold toldN
  have h1 := (t.getD 0 0 - 48).toNat_lt
  have h2 := (t.getD 1 0 - 48).toNat_lt
  omega
theorem textL_len (k n c : Int) (l : List UInt8) (h0 : 1 ≤ n) (h1 : n ≤ 64) : ((textL k n c l).1.length : Int) ≤ 10000 := by
  unfold textL
  split
  · split
    · show (0 : Int) ≤ _; decide
    · have a := next_len (lettersC c) l 0 (n := 1) (by decide)
      have b := next_len (digitsC c) (nextL (lettersC c) 1 l 0).2.1 (nextL (lettersC c) 1 l 0).2.2 (n := n) (by omega)
      simp only [List.length_append]
      omega
  · split
    · split
      · show (0 : Int) ≤ _; decide
      · have a := toldN_range (nextL (digitsC c) 2 l 0).1
        have b := next_len (digitsC c) (nextL (digitsC c) 2 l 0).2.1 (if toldN (nextL (digitsC c) 2 l 0).1 < 1 ∨ n < toldN (nextL (digitsC c) 2 l 0).1 then 42 else 0) a.1
        omega
    · split
      · have := next_len (digitsC c) l 0 (n := n) (by omega); omega
      · split
        · have := next_len (lettersC c) l 0 (n := n) (by omega); omega
        · have := next_len (rawC c) l 0 (n := 2 * n) (by omega); omega

theorem next_rest (ck : CK) (n : Int) (l : List UInt8) (e : Int) : (nextL ck n l e).2.1.length ≤ l.length := by
  unfold nextL
  split
  · exact Nat.le_refl _
  · split
    · exact Nat.le_refl _
    · split
      · exact Nat.le_refl _
      · show (List.drop _ _).length ≤ _
        rw [List.length_drop]; omega
theorem textL_rest (k n c : Int) (l : List UInt8) : (textL k n c l).2.1.length ≤ l.length := by
  unfold textL
  split
  · split
    · exact Nat.le_refl _
    · exact Nat.le_trans (next_rest _ _ _ _) (next_rest _ _ _ _)
  · split
    · split
      · exact next_rest _ _ _ _
      · exact Nat.le_trans (next_rest _ _ _ _) (next_rest _ _ _ _)
    · split
      · exact next_rest _ _ _ _
      · split
        · exact next_rest _ _ _ _
        · exact next_rest _ _ _ _
theorem BytesAt.V {w W : World} {b cap : Nat} {l : List UInt8} (h : BytesAt W b l) (hb : w.heap.size ≤ b) (hcap : l.length ≤ cap) (hl : l.length ≤ 9223372036854775807) :
    Kd.V (Kd.int .u8) 5 W w.heap.size (fun k_ => (w.heap.size ≤ k_)) (.slice (some ⟨b, 0, none⟩) l.length cap) (nums8 l) := by
  have hnl : (nums8 l).length = l.length := by simp [nums8]
  refine ⟨some ⟨b, 0, none⟩, cap, by rw [hnl], by rw [hnl]; exact hcap, ?_⟩
  intro W' hW
  rw [hnl]
  have h' : BytesAt W' b l := by
    obtain ⟨C, fr, h1, h2, h3⟩ := h
    exact ⟨C, fr, (hW b hb (Array.getElem?_eq_some_iff.1 h1).1).trans h1, h2, h3⟩
  refine ⟨hnl, hl, fun _ => ⟨_, rfl, ?_⟩⟩
  intro j p hj
  have hj' : j < l.length := by rw [← hnl]; exact (List.getElem?_eq_some_iff.1 hj).1
  refine ⟨[.int .u8 p], rfl, rfl, ?_⟩
  intro i u hu
  match i, hu with
  | 0, hu =>
    have hu' : u = .int .u8 p := by simpa using hu.symm
    subst hu'
    have hp : p = (l[j].toNat : Int) := by
      have := (List.getElem?_eq_some_iff.1 hj).2
      simpa [nums8] using this.symm
    subst hp
    have := h'.cell j hj'
    rw [← this, show (⟨b, 0, none⟩ : Addr).add (j * (Kd.int .u8).sz + 0) = ⟨b, j, none⟩ from by
      show (⟨b, 0, none⟩ : Addr).add (j * 1 + 0) = _
      unfold Addr.add; simp; intro h; exact h.symm]
  | i + 1, hu => simp at hu
theorem V_drew2 {w W : World} {ok : Nat → Prop} {v : Value} {l : List Int} (h : Kd.V (Kd.int .u8) 5 W w.heap.size ok v l) : Kd.V (Kd.int .u8) 5 W.drew.drew w.heap.size ok v l := h
theorem strOf_len (l : List Int) : (strOfNums l).data.toList.length = l.length := by
  rw [strOfNums_data]; simp

/-- What Take answers. -/
def takeR (l0 : List Int) (k n c : Int) : ByteArray × List Int × Int :=
  if mayB k n c = true then
    if (textL k n c (strOfNums l0).data.toList).2.2 ≠ 0 then (⟨#[]⟩, [], (textL k n c (strOfNums l0).data.toList).2.2)
    else if rightB k n (textL k n c (strOfNums l0).data.toList).1 = true then (⟨(textL k n c (strOfNums l0).data.toList).1.toArray⟩, nums8 (textL k n c (strOfNums l0).data.toList).2.1, 0)
    else (⟨#[]⟩, [], 42)
  else (⟨#[]⟩, [], 40)

set_option maxHeartbeats 4000000 in
set_option maxRecDepth 100000 in
theorem take_any (k n c : Int) (A0 : Option Addr) (c0 : Nat) (l0 : List Int) (w : World) (hr0 : Kd.C (Kd.int .u8) w A0 l0.length l0) :
    Calls Tryz.prog 88 #[.slice A0 l0.length c0, .agg #[.int .i64 k, .int .i64 n, .int .i64 c]] w fun e w' => ∃ v1_ : Value, e = .returned (.tuple #[.string (takeR l0 k n c).1, v1_, .int .i64 (takeR l0 k n c).2.2]) ∧ Kd.V (Kd.int .u8) 5 w' w.heap.size (fun k_ => (w.heap.size ≤ k_)) v1_ (takeR l0 k n c).2.1 ∧ Below w.heap.size w w' := by
  have HM := Lib.hid (may_any k n c)
  have HR0 := Aside0.mk hr0
  clear hr0
  cases hm : mayB k n c with
  | false =>
    have e : takeR l0 k n c = (⟨#[]⟩, [], 40) := by simp [takeR, hm]
    rw [e]
    rw [hm] at HM
    clear e hm
    go_enter Tryz.func88, Tryz.ntmps88
    go_wp2_with fail
    refine (HM.out _).mono ?_
    rintro e w1 ⟨rfl, hb1⟩
    have HB := Lib.hid (((Below.refl w.heap.size w).alloc (Nat.le_refl _) _).trans (hb1.mono (by simp)))
    clear hb1
    go_wp2_with fail
    go_ret3
    exact ⟨_, rfl, Kd.V_nil _ _ _ _ _, HB.out⟩
  | true =>
    have hn : 1 ≤ n ∧ n ≤ 64 := by simp [mayB] at hm; omega
    have hlen := textL_len k n c (strOfNums l0).data.toList hn.1 hn.2
    have hR := fun w s (hs : s.size ≤ 100000000) => right_any k n c s w hs hn.1 hn.2
    have HRT := Lib.hid hR
    clear hR
    have HF := Lib.hid (show takeR l0 k n c = if (textL k n c (strOfNums l0).data.toList).2.2 ≠ 0 then (⟨#[]⟩, [], (textL k n c (strOfNums l0).data.toList).2.2)
      else if rightB k n (textL k n c (strOfNums l0).data.toList).1 = true then (⟨(textL k n c (strOfNums l0).data.toList).1.toArray⟩, nums8 (textL k n c (strOfNums l0).data.toList).2.1, 0)
      else (⟨#[]⟩, [], 42) by simp [takeR, hm])
    have HT := Lib.hid (fun b w hrd => text_any k n c b (strOfNums l0).data.toList w hrd hm)
    generalize takeR l0 k n c = R at HF ⊢
    have hrest := textL_rest k n c (strOfNums l0).data.toList
    generalize textL k n c (strOfNums l0).data.toList = T at HF HT hlen hrest
    obtain ⟨t, l', e'⟩ := T
    simp only at HF HT hlen hrest
    rw [hm] at HM
    have hl63 : l'.length ≤ 9223372036854775807 := Nat.le_trans hrest (by have := HR0.out.2.1; rw [strOf_len]; exact this)
    clear hm hn hrest
    go_enter Tryz.func88, Tryz.ntmps88
    go_wp2_with fail
    refine (HM.out _).mono ?_
    rintro e w1 ⟨rfl, hb1⟩
    have hz1 : w.heap.size < w1.heap.size := by have := hb1.size; simp at this; omega
    have hcv := Kd.C_string (P := Tryz.prog) (c := c0) Tryz.underlying33 Tryz.underlying5 Tryz.underlying9 (Kd.C_below (Kd.C_below HR0.out ((Below.refl _ _).alloc (Nat.le_refl _) _)) hb1)
    obtain ⟨hc1, hf1⟩ := bcell hb1
    have HB1 := Aside0.mk (((Below.refl w.heap.size w).alloc (Nat.le_refl _) _).trans (hb1.mono (by simp)))
    clear hb1
    have hk0 : ∀ o : Obj, (w1.alloc o).cell? ⟨w.heap.size, 0, none⟩ = some (.int .i64 k) := fun o => by
      rw [((Below.refl _ _).alloc (Nat.le_refl _) _).cell (p := ⟨w.heap.size, 0, none⟩) hz1, hc1 _ _ (by simp)]; go_simp
    have hk1 : ∀ o : Obj, (w1.alloc o).cell? ⟨w.heap.size, 1, none⟩ = some (.int .i64 n) := fun o => by
      rw [((Below.refl _ _).alloc (Nat.le_refl _) _).cell (p := ⟨w.heap.size, 1, none⟩) hz1, hc1 _ _ (by simp)]; go_simp
    have hk2 : ∀ o : Obj, (w1.alloc o).cell? ⟨w.heap.size, 2, none⟩ = some (.int .i64 c) := fun o => by
      rw [((Below.refl _ _).alloc (Nat.le_refl _) _).cell (p := ⟨w.heap.size, 2, none⟩) hz1, hc1 _ _ (by simp)]; go_simp
    have HK := Aside0.mk (And.intro hk0 (And.intro hk1 hk2))
    clear hk0 hk1 hk2
    go_wp2_with fail
    refine (HT.out _ _ (by show (w1.heap.push _)[w1.heap.size]? = _; simp)).mono ?_
    rintro e w3 ⟨rfl, hrd3, ht3⟩
    have hk0 : w3.cell? ⟨w.heap.size, 0, none⟩ = some (.int .i64 k) := ht3.cell (by show w.heap.size ≠ w1.heap.size; omega) (HK.out.1 _)
    have hk1 : w3.cell? ⟨w.heap.size, 1, none⟩ = some (.int .i64 n) := ht3.cell (by show w.heap.size ≠ w1.heap.size; omega) (HK.out.2.1 _)
    have hk2 : w3.cell? ⟨w.heap.size, 2, none⟩ = some (.int .i64 c) := ht3.cell (by show w.heap.size ≠ w1.heap.size; omega) (HK.out.2.2 _)
    have hr0 : w3.cell? ⟨w1.heap.size, 0, none⟩ = some (.string ⟨l'.toArray⟩) := blk_cell hrd3 0
    have hr1 : w3.cell? ⟨w1.heap.size, 1, none⟩ = some (.int .i64 e') := blk_cell hrd3 1
    have HB3 := Aside0.mk ((HB1.out.alloc (by omega) _).trans (ht3.below (by simp; omega) (by omega)))
    clear hrd3 ht3 hc1 hf1 hcv
    obtain ⟨D, hD⟩ : ∃ D : ByteArray, D = ⟨t.toArray⟩ := ⟨_, rfl⟩
    have hDs : D.size ≤ 100000000 := by rw [hD, size_arr]; omega
    have hDl : D.data.toList = t := by rw [hD]
    simp only [← hD] at HF ⊢
    have HDL := Lib.hid hDl
    clear hD hDl
    by_cases he : e' = 0
    · subst he
      have hRc := fun w => HRT.out w D hDs
      rw [HDL.out] at hRc
      have HRc := Lib.hid hRc
      clear hRc
      generalize rightB k n t = rb at HF HRc
      cases rb with
      | false =>
        have hRe : R = (⟨#[]⟩, [], 42) := by rw [HF.out]; simp
        subst hRe
        clear HF
        go_wp2_with fail
        refine (HRc.out _).mono ?_
        rintro e w4 ⟨rfl, hb4⟩
        have HB4 := Aside0.mk (HB3.out.trans (hb4.mono HB3.out.size))
        clear hb4
        go_wp2_with fail
        go_ret3
        exact ⟨_, rfl, Kd.V_nil _ _ _ _ _, HB4.out⟩
      | true =>
        have hRe : R = (D, nums8 l', 0) := by rw [HF.out]; simp
        subst hRe
        clear HF
        go_wp2_with fail
        refine (HRc.out _).mono ?_
        rintro e w4 ⟨rfl, hb4⟩
        have hr0' : w4.cell? ⟨w1.heap.size, 0, none⟩ = some (.string ⟨l'.toArray⟩) := (hb4.cell (World.block_lt_of_cell? w3 _ hr0)).trans hr0
        have HB4 := Aside0.mk (HB3.out.trans (hb4.mono HB3.out.size))
        clear hb4 hk0 hk1 hk2 hr0 hr1
        obtain ⟨S, hS⟩ : ∃ S : ByteArray, S = ⟨l'.toArray⟩ := ⟨_, rfl⟩
        rw [← hS] at hr0'
        have HS := Lib.hid hS
        clear hS
        have hcv := fun W => run_bytes_of_string (P := Tryz.prog) W 9 33 5 S Tryz.underlying9 Tryz.underlying33 Tryz.underlying5
        go_wp2_with fail
        go_region
        have hVV := (BytesAt.fresh w4 S (grownCap w4.drew S.size 0 5)).V (w := w) (cap := grownCap w4.drew S.size 0 5) HB4.out.size (by rw [size_list]; exact grownCap_ge _ _ _ _) (by rw [HS.out]; exact hl63)
        have HV := Aside0.mk hVV
        clear hVV hcv
        go_wp2_with fail
        go_ret3
        exact ⟨_, rfl, by have := HV.out; rw [size_list, HS.out] at this; rw [HS.out]; exact V_drew2 this, ((HB4.out.alloc HB4.out.size _).drew).drew⟩
    · have hne : (e' != 0) = true := by simpa using he
      have hRe : R = (⟨#[]⟩, [], e') := by rw [HF.out, if_pos he]
      subst hRe
      clear HF he
      go_wp2_with fail
      go_quiet (fail)
      go_wp2_with fail
      go_ret3
      exact ⟨_, rfl, Kd.V_nil _ _ _ _ _, pw_below_drewN HB3.out _⟩
end Go.Proofs.YtommklkihjmgcaaGreatDoor.fieldw
namespace Go.Proofs.YtommklkihjmgcaaGreatDoor.fieldw
open Go.RowKit Go.Proofs.YtommklkihjmgcaaGreatDoor.fieldp Go.Proofs.YtommklkihjmgcaaGreatDoorW.PrintWords Go.Proofs.YtommklkihjmgcaaGreatDoorW.PrintLast

def five (v : Nat → Int) (k : Nat) : Array Value := #[.int .i64 (if 0 < k then v 0 else 0), .int .i64 (if 1 < k then v 1 else 0), .int .i64 (if 2 < k then v 2 else 0), .int .i64 (if 3 < k then v 3 else 0), .int .i64 (if 4 < k then v 4 else 0)]
end Go.Proofs.YtommklkihjmgcaaGreatDoor.fieldw
namespace Go.Proofs.YtommklkihjmgcaaGreatDoor.fieldl
open Go Go.Proofs.YtommklkihjmgcaaGreatDoor.fieldp Go.Proofs.YtommklkihjmgcaaGreatDoor.fieldw

/-- A row without two bytes alike. -/
def Row (t : List UInt8) : Prop := ∀ i : Nat, i < t.length → Lib.indexByte t (t.getD i 0) = (i : Int)
theorem index_get {fr : List UInt8} {c : UInt8} (h : Lib.indexByte fr c ≠ -1) : ∃ i : Nat, Lib.indexByte fr c = (i : Int) ∧ i < fr.length ∧ fr.getD i 0 = c := by
  have h1 := Lib.indexByte_ge fr c
  have h2 := (Lib.indexByte_some (l := fr) (c := c) (o := (Lib.indexByte fr c).toNat) (by omega)).1
  refine ⟨(Lib.indexByte fr c).toNat, by omega, (List.getElem?_eq_some_iff.1 h2).1, ?_⟩
  rw [List.getD_eq_getElem?_getD, h2]
  rfl
theorem turn_back {fr tt : List UInt8} (hr : Row tt) (hl : fr.length ≤ tt.length) : ∀ {l a : List UInt8}, turnL fr tt l = some a → turnL tt fr a = some l
  | [], a, h => by simp [turnL] at h; subst h; rfl
  | c :: l, a, h => by
    simp only [turnL] at h
    split at h
    · cases h
    · rename_i hne
      obtain ⟨i, hi, hil, hc⟩ := index_get hne
      cases e : turnL fr tt l with
      | none => rw [e] at h; cases h
      | some b =>
        rw [e] at h
        simp only [Option.map_some, Option.some.injEq] at h
        subst h
        have ih := turn_back hr hl e
        rw [hi, Int.toNat_natCast]
        have hx := hr i (by omega)
        simp only [turnL]
        rw [hx, if_neg (by omega), ih, Int.toNat_natCast, hc]
        rfl
theorem turn_some {fr tt : List UInt8} : ∀ {l : List UInt8}, l.all (inRow fr) = true → ∃ a, turnL fr tt l = some a
  | [], _ => ⟨[], rfl⟩
  | c :: l, h => by
    simp only [List.all_cons, Bool.and_eq_true] at h
    obtain ⟨a, ha⟩ := turn_some h.2 (fr := fr) (tt := tt)
    have hc : Lib.indexByte fr c ≠ -1 := by simpa [inRow] using h.1
    exact ⟨_, by simp only [turnL]; rw [if_neg hc, ha]; rfl⟩

theorem hex_val : ∀ i : Nat, i < 16 → hv (hexd i) = i ∧ isHex (hexd i) := by
  have : ∀ i : Fin 16, hv (hexd i.1) = i.1 ∧ Lib.indexByte hexL (hexd i.1) ≠ -1 := by decide
  exact fun i hi => this ⟨i, hi⟩
theorem hexd_hv {c : UInt8} (h : isHex c) : hexd (hv c) = c := by
  obtain ⟨i, hi, hil, hc⟩ := index_get (fr := hexL) (c := c) h
  unfold hv hexd
  rw [hi, Int.toNat_natCast]
  exact hc
theorem two_hex (a b : Nat) (ha : a < 16) (hb : b < 16) : (16 * a + b).toUInt8.toNat / 16 = a ∧ (16 * a + b).toUInt8.toNat % 16 = b := by
  have : (16 * a + b).toUInt8.toNat = 16 * a + b := by
    simp only [Nat.toUInt8, UInt8.toNat_ofNat']
    omega
  omega
theorem unpack_pack : ∀ (n : Nat) (l : List UInt8), l.length = 2 * n → (∀ c ∈ l, isHex c) → unpackL (packE l) = l
  | 0, [], _, _ => rfl
  | n + 1, a :: b :: l, h, hx => by
    have ha := hx a (by simp)
    have hb := hx b (by simp)
    have ih := unpack_pack n l (by simp at h; omega) (fun c hc => hx c (by simp [hc]))
    have h2 := two_hex (hv a) (hv b) (hv_lt ha) (hv_lt hb)
    simp only [packE]
    rw [show ∀ (x : UInt8) (r : List UInt8), unpackL (x :: r) = hexd (x.toNat / 16) :: hexd (x.toNat % 16) :: unpackL r from fun x r => by simp [unpackL]]
    rw [h2.1, h2.2, ih, hexd_hv ha, hexd_hv hb]
  | n + 1, [_], h, _ => by simp at h; omega
  | n + 1, [], h, _ => by simp at h
theorem pack_unpack : ∀ (x : List UInt8), packE (unpackL x) = x
  | [] => rfl
  | c :: x => by
    rw [show unpackL (c :: x) = hexd (c.toNat / 16) :: hexd (c.toNat % 16) :: unpackL x from by simp [unpackL]]
    have h1 := c.toNat_lt
    simp only [packE]
    rw [(hex_val _ (by omega)).1, (hex_val _ (by omega)).1, pack_unpack x]
    congr 1
    apply UInt8.toNat_inj.1
    simp only [Nat.toUInt8, UInt8.toNat_ofNat']
    omega
/-- The bytes that a code writes. -/
def alpha : CK → List UInt8
  | .plain f _ => f.data.toList
  | .packed d => d.data.toList
/-- A code that can be read again. -/
def Good : CK → Prop
  | .plain f t => Row f.data.toList ∧ Row t.data.toList ∧ f.size = t.size
  | .packed d => ∀ c : UInt8, inRow d.data.toList c = true → isHex c
theorem put_len {ck : CK} (hg : Good ck) {l : List UInt8} (h : l.all (inRow (alpha ck)) = true) : ((ck.put l).length : Int) = ck.size l.length := by
  cases ck with
  | plain f t =>
    obtain ⟨a, ha⟩ := turn_some h (tt := t.data.toList)
    have ha' : turnL f.data.toList t.data.toList l = some a := ha
    show (((turnL f.data.toList t.data.toList l).getD []).length : Int) = (l.length : Int)
    rw [ha', Option.getD_some, turnL_length _ _ _ _ ha']
  | packed d =>
    show ((packE (evened l)).length : Int) = ((l.length : Int) + 1) / 2
    have he := evened_even l
    rw [packE_length ((evened l).length / 2) _ (by omega)]
    unfold evened
    split
    · simp only [List.length_cons]; omega
    · omega
theorem take_put {ck : CK} (hg : Good ck) {l : List UInt8} (h : l.all (inRow (alpha ck)) = true) : ck.take (ck.put l) l.length = some l := by
  cases ck with
  | plain f t =>
    obtain ⟨hf, ht, hs⟩ := hg
    obtain ⟨a, ha⟩ := turn_some h (tt := t.data.toList)
    have ha' : turnL f.data.toList t.data.toList l = some a := ha
    show turnL t.data.toList f.data.toList ((turnL f.data.toList t.data.toList l).getD []) = some l
    rw [ha', Option.getD_some]
    exact turn_back ht (by rw [size_list, size_list]; omega) ha'
  | packed d =>
    have hh : ∀ c ∈ l, isHex c := fun c hc => hg c (List.all_eq_true.1 h c hc)
    have hu : unpackL (packE (evened l)) = evened l := unpack_pack ((evened l).length / 2) _ (by have := evened_even l; omega) (evened_hex hh)
    have ho : ofB l d.data.toList l.length = true := by
      unfold ofB
      rw [show l.all (inRow d.data.toList) = true from h]
      simp
    show takePacked d.data.toList (packE (evened l)) l.length = some l
    unfold takePacked
    rw [hu]
    by_cases hodd : l.length % 2 = 1
    · rw [if_pos hodd, show evened l = 48 :: l from if_pos hodd]
      exact (if_pos rfl).trans (if_pos ho)
    · rw [if_neg hodd, show evened l = l from if_neg hodd]
      exact if_pos ho
theorem put_take {ck : CK} (hg : Good ck) {x t : List UInt8} {n : Int} (hl : (x.length : Int) = ck.size n) (h : ck.take x n = some t) : t.all (inRow (alpha ck)) = true ∧ ck.put t = x := by
  cases ck with
  | plain f t' =>
    obtain ⟨hf, ht, hs⟩ := hg
    have h' : turnL t'.data.toList f.data.toList x = some t := h
    have hb := turn_back hf (by rw [size_list, size_list]; omega) h'
    refine ⟨turnL_all _ _ (show t'.data.toList.length ≤ f.data.toList.length by rw [size_list, size_list]; omega) _ _ h', ?_⟩
    show (turnL f.data.toList t'.data.toList t).getD [] = x
    rw [hb]
    rfl
  | packed d =>
    have h' : takePacked d.data.toList x n.toNat = some t := h
    have hl' : (x.length : Int) = (n + 1) / 2 := hl
    have hu := unpackL_length x
    unfold takePacked at h'
    split at h'
    · rename_i hodd
      split at h'
      · rename_i hh
        split at h'
        · rename_i ho
          have ht : (unpackL x).tail = t := Option.some.inj h'
          rw [ht] at ho
          obtain ⟨h1, h2⟩ := ofB_all ho
          refine ⟨h1, ?_⟩
          show packE (evened t) = x
          have : evened t = unpackL x := by
            unfold evened
            rw [if_pos (by omega)]
            cases hx : unpackL x with
            | nil => rw [hx] at hh; cases hh
            | cons a r =>
              rw [hx] at hh ht
              simp only [List.head?_cons, Option.some.injEq] at hh
              simp only [List.tail_cons] at ht
              rw [hh, ht]
          rw [this, pack_unpack]
        · cases h'
      · cases h'
    · rename_i heven
      split at h'
      · rename_i ho
        have ht : unpackL x = t := Option.some.inj h'
        rw [ht] at ho
        obtain ⟨h1, h2⟩ := ofB_all ho
        refine ⟨h1, ?_⟩
        show packE (evened t) = x
        have : evened t = unpackL x := by
          unfold evened
          rw [if_neg (by omega), ht]
        rw [this, pack_unpack]
      · cases h'

set_option maxRecDepth 100000 in
theorem good_letters (c : Int) : Good (lettersC c) ∧ alpha (lettersC c) = signsL := by
  have h1 : ∀ i : Fin 37, Lib.indexByte signsL (signsL.getD i.1 0) = (i.1 : Int) := by decide
  have h2 : ∀ i : Fin 37, Lib.indexByte ebcB.data.toList (ebcB.data.toList.getD i.1 0) = (i.1 : Int) := by decide
  unfold lettersC
  split
  · exact ⟨⟨fun i h => h1 ⟨i, h⟩, fun i h => h1 ⟨i, h⟩, rfl⟩, rfl⟩
  · split
    · exact ⟨⟨fun i h => h1 ⟨i, h⟩, fun i h => h1 ⟨i, h⟩, rfl⟩, rfl⟩
    · exact ⟨⟨fun i h => h1 ⟨i, h⟩, fun i h => h2 ⟨i, h⟩, rfl⟩, rfl⟩
set_option maxRecDepth 100000 in
theorem good_digits (c : Int) : Good (digitsC c) ∧ alpha (digitsC c) = tenL := by
  have h1 : ∀ i : Fin 10, Lib.indexByte tenL (tenL.getD i.1 0) = (i.1 : Int) := by decide
  have h2 : ∀ i : Fin 10, Lib.indexByte eb10.data.toList (eb10.data.toList.getD i.1 0) = (i.1 : Int) := by decide
  unfold digitsC
  split
  · exact ⟨⟨fun i h => h1 ⟨i, h⟩, fun i h => h1 ⟨i, h⟩, rfl⟩, rfl⟩
  · split
    · exact ⟨fun c hc => ten_hex hc, rfl⟩
    · exact ⟨⟨fun i h => h1 ⟨i, h⟩, fun i h => h2 ⟨i, h⟩, rfl⟩, rfl⟩
set_option maxRecDepth 100000 in
theorem good_raw (c : Int) : Good (rawC c) ∧ alpha (rawC c) = hexL := by
  have h1 : ∀ i : Fin 16, Lib.indexByte hexL (hexL.getD i.1 0) = (i.1 : Int) := by decide
  have h2 : ∀ i : Fin 16, Lib.indexByte highB.data.toList (highB.data.toList.getD i.1 0) = (i.1 : Int) := by decide
  unfold rawC
  split
  · exact ⟨⟨fun i h => h1 ⟨i, h⟩, fun i h => h2 ⟨i, h⟩, rfl⟩, rfl⟩
  · exact ⟨fun c hc => show Lib.indexByte hexL c ≠ -1 from of_decide_eq_true hc, rfl⟩

/-! What stands at the front is read, and what is read stood at the front. -/
theorem next_put {ck : CK} (hg : Good ck) {l r : List UInt8} (h : l.all (inRow (alpha ck)) = true) {n : Int} (hn : (l.length : Int) = n) : nextL ck n (ck.put l ++ r) 0 = (l, r, 0) := by
  have hp := put_len hg h
  rw [hn] at hp
  have hs : (ck.size n).toNat = (ck.put l).length := by omega
  unfold nextL
  rw [if_neg (by decide), if_neg (by rw [List.length_append]; omega), hs, List.take_left, List.drop_left, ← hn, take_put hg h]
theorem next_short {ck : CK} {l : List UInt8} {n : Int} (h : (l.length : Int) < ck.size n) : nextL ck n l 0 = ([], l, 43) := by
  unfold nextL
  rw [if_neg (by decide), if_pos h]
theorem next_zero {ck : CK} (hg : Good ck) {l : List UInt8} {e n : Int} (hn : 0 ≤ n) (h : (nextL ck n l e).2.2 = 0) :
    e = 0 ∧ (nextL ck n l e).1.all (inRow (alpha ck)) = true ∧ ((nextL ck n l e).1.length : Int) = n ∧ l = ck.put (nextL ck n l e).1 ++ (nextL ck n l e).2.1 := by
  unfold nextL at h ⊢
  by_cases he : e = 0
  · rw [if_neg (by simpa using he)] at h ⊢
    by_cases hs : (l.length : Int) < ck.size n
    · rw [if_pos hs] at h; cases h
    · rw [if_neg hs] at h ⊢
      cases ht : ck.take (l.take (ck.size n).toNat) n with
      | none => rw [ht] at h; cases h
      | some t =>
        have hx : ((l.take (ck.size n).toNat).length : Int) = ck.size n := by
          have := size_nonneg ck hn
          rw [List.length_take]; omega
        obtain ⟨a, b⟩ := put_take hg hx ht
        refine ⟨he, a, fieldw.take_len hn hx ht, ?_⟩
        show l = ck.put t ++ l.drop _
        rw [b, List.take_append_drop]
  · rw [if_pos he] at h
    exact absurd h he
theorem told_size (n : Nat) : toldN (told n) = if n < 100 then (n : Int) else toldN (told n) := by
  split
  · rename_i h
    have : ∀ i : Fin 100, toldN (told i.1) = (i.1 : Int) := by decide
    exact this ⟨n, h⟩
  · rfl
theorem toldN_told {t : List UInt8} (h : t.all (inRow tenL) = true) (hl : t.length = 2) : told (toldN t).toNat = t := by
  obtain ⟨x, y, rfl⟩ : ∃ x y, t = [x, y] := by
    match t, hl with
    | [x, y], _ => exact ⟨x, y, rfl⟩
  simp only [List.all_cons, List.all_nil, Bool.and_true, Bool.and_eq_true] at h
  obtain ⟨i, hi, rfl⟩ := ten_val h.1
  obtain ⟨j, hj, rfl⟩ := ten_val h.2
  have : ∀ i j : Fin 10, told (toldN [UInt8.ofNat (48 + i.1), UInt8.ofNat (48 + j.1)]).toNat = [UInt8.ofNat (48 + i.1), UInt8.ofNat (48 + j.1)] := by decide
  exact this ⟨i, by omega⟩ ⟨j, by omega⟩
end Go.Proofs.YtommklkihjmgcaaGreatDoor.fieldl

namespace Go.Proofs.YtommklkihjmgcaaGreatDoor.fieldl
open Go Go.Proofs.YtommklkihjmgcaaGreatDoor.fieldp Go.Proofs.YtommklkihjmgcaaGreatDoor.fieldw

/-- A form that may be, and a right text for it. -/
def Fit (k n _c : Int) (l : List UInt8) : Prop := (1 ≤ n ∧ n ≤ 64) ∧
  ((k = 5 ∧ ∃ a r, l = a :: r ∧ [a].all (inRow signsL) = true ∧ r.all (inRow tenL) = true ∧ (r.length : Int) = n) ∨
   (k = 2 ∧ 0 < l.length ∧ (l.length : Int) ≤ n ∧ l.all (inRow tenL) = true) ∨
   (k = 1 ∧ l.all (inRow tenL) = true ∧ (l.length : Int) = n) ∨
   (k = 3 ∧ l.all (inRow signsL) = true ∧ (l.length : Int) = n) ∨
   (k = 4 ∧ l.all (inRow hexL) = true ∧ (l.length : Int) = 2 * n))
theorem fit_of {k n c : Int} {l : List UInt8} (h : checkR k n c l = 0) : Fit k n c l := by
  obtain ⟨hm, hr⟩ := check_zero h
  have hm' : 1 ≤ k ∧ k ≤ 5 ∧ 1 ≤ n ∧ n ≤ 64 ∧ 1 ≤ c ∧ c ≤ 3 := by simpa [mayB] using hm
  refine ⟨⟨by omega, by omega⟩, ?_⟩
  unfold rightB at hr
  split at hr
  · rename_i h5
    left
    refine ⟨h5, ?_⟩
    cases l with
    | nil => cases hr
    | cons a r =>
      simp only [Bool.and_eq_true] at hr
      obtain ⟨h1, h2⟩ := ofB_all hr.2
      refine ⟨a, r, rfl, ?_, h1, h2⟩
      have : a = 67 ∨ a = 68 := by simpa using hr.1
      rcases this with rfl | rfl <;> decide
  · rename_i h5
    right
    split at hr
    · rename_i h1
      obtain ⟨a, b⟩ := ofB_all hr
      exact .inr (.inl ⟨h1, a, b⟩)
    · rename_i h1
      split at hr
      · rename_i h2
        simp only [Bool.and_eq_true, decide_eq_true_eq] at hr
        obtain ⟨a, _⟩ := ofB_all hr.2
        exact .inl ⟨h2, hr.1.1, hr.1.2, a⟩
      · rename_i h2
        split at hr
        · rename_i h3
          obtain ⟨a, b⟩ := ofB_all hr
          exact .inr (.inr (.inl ⟨h3, a, b⟩))
        · rename_i h3
          obtain ⟨a, b⟩ := ofB_all hr
          exact .inr (.inr (.inr ⟨by omega, a, b⟩))

/-- How many bytes a form's text takes. -/
def bytesN (k n c : Int) (m : Int) : Int :=
  if k = 5 then (lettersC c).size 1 + (digitsC c).size n
  else if k = 2 then (digitsC c).size 2 + (digitsC c).size m
  else if k = 1 then (digitsC c).size n
  else if k = 3 then (lettersC c).size n
  else (rawC c).size (2 * n)
theorem told_all {m : Nat} (h : m < 100) : (told m).all (inRow (alpha (digitsC 1))) = true := told_ok m h
theorem all_d {c : Int} {l : List UInt8} (h : l.all (inRow tenL) = true) : l.all (inRow (alpha (digitsC c))) = true := by rw [(good_digits c).2]; exact h
theorem all_l {c : Int} {l : List UInt8} (h : l.all (inRow signsL) = true) : l.all (inRow (alpha (lettersC c))) = true := by rw [(good_letters c).2]; exact h
theorem all_r {c : Int} {l : List UInt8} (h : l.all (inRow hexL) = true) : l.all (inRow (alpha (rawC c))) = true := by rw [(good_raw c).2]; exact h
theorem bytes_len {k n c : Int} {l : List UInt8} (h : Fit k n c l) : ((putBytes k c l).length : Int) = bytesN k n c l.length := by
  obtain ⟨hn, ⟨rfl, a, r, rfl, ha, hr, hl⟩ | ⟨rfl, h0, h1, hr⟩ | ⟨rfl, hr, hl⟩ | ⟨rfl, hr, hl⟩ | ⟨rfl, hr, hl⟩⟩ := h
  · have e1 := put_len (good_letters c).1 (all_l (c := c) ha)
    have e2 := put_len (good_digits c).1 (all_d (c := c) hr)
    rw [hl] at e2
    simp only [putBytes, bytesN, if_true, List.length_append, List.take_succ_cons, List.take_zero, List.tail_cons]
    have e1' : (((lettersC c).put [a]).length : Int) = (lettersC c).size 1 := e1
    omega
  · have e1 := put_len (good_digits c).1 (all_d (c := c) (told_ok l.length (by omega)))
    have e2 := put_len (good_digits c).1 (all_d (c := c) hr)
    have e1' : (((digitsC c).put (told l.length)).length : Int) = (digitsC c).size 2 := e1
    simp only [putBytes, bytesN, if_true]
    rw [if_neg (by decide), if_neg (by decide), List.length_append]
    omega
  · have e2 := put_len (good_digits c).1 (all_d (c := c) hr)
    rw [hl] at e2
    exact e2
  · have e2 := put_len (good_letters c).1 (all_l (c := c) hr)
    rw [hl] at e2
    exact e2
  · have e2 := put_len (good_raw c).1 (all_r (c := c) hr)
    rw [hl] at e2
    exact e2
theorem back {k n c : Int} {l : List UInt8} (h : Fit k n c l) (r : List UInt8) : textL k n c (putBytes k c l ++ r) = (l, r, 0) := by
  have hlen := bytes_len h
  obtain ⟨hn, ⟨rfl, a, x, rfl, ha, hx, hl⟩ | ⟨rfl, h0, h1, hx⟩ | ⟨rfl, hx, hl⟩ | ⟨rfl, hx, hl⟩ | ⟨rfl, hx, hl⟩⟩ := h
  · have hb : bytesN 5 n c (a :: x).length = (lettersC c).size 1 + (digitsC c).size n := rfl
    rw [hb] at hlen
    have hp : putBytes 5 c (a :: x) = (lettersC c).put [a] ++ (digitsC c).put x := rfl
    have h1 := next_put (good_letters c).1 (all_l (c := c) ha) (r := (digitsC c).put x ++ r) (n := 1) rfl
    have h2 := next_put (good_digits c).1 (all_d (c := c) hx) (r := r) hl
    have hs : ¬ (((putBytes 5 c (a :: x) ++ r).length : Int) < (lettersC c).size 1 + (digitsC c).size n) := by rw [List.length_append]; omega
    unfold textL
    rw [if_pos rfl, if_neg hs, hp, List.append_assoc, h1]
    simp only
    rw [h2]
    rfl
  · have ht := all_d (c := c) (told_ok l.length (by omega))
    have hp : putBytes 2 c l = (digitsC c).put (told l.length) ++ (digitsC c).put l := rfl
    have h2 := next_put (good_digits c).1 ht (r := (digitsC c).put l ++ r) (n := 2) rfl
    have h3 := next_put (good_digits c).1 (all_d (c := c) hx) (r := r) (n := l.length) rfl
    have hz := told_size l.length
    rw [if_pos (by omega)] at hz
    unfold textL
    rw [if_neg (by decide), if_pos rfl, hp, List.append_assoc, h2]
    simp only
    rw [if_neg (by simp), hz, if_neg (by omega), h3]
  · exact next_put (good_digits c).1 (all_d (c := c) hx) hl
  · exact next_put (good_letters c).1 (all_l (c := c) hx) hl
  · exact next_put (good_raw c).1 (all_r (c := c) hx) hl
theorem short {k n c : Int} {l : List UInt8} (h : Fit k n c l) (i : Nat) (hi : i < (putBytes k c l).length) : (textL k n c ((putBytes k c l).take i)).2.2 = 43 := by
  have hlen := bytes_len h
  have hti : (((putBytes k c l).take i).length : Int) = i := by rw [List.length_take]; omega
  obtain ⟨hn, ⟨rfl, a, x, rfl, ha, hx, hl⟩ | ⟨rfl, h0, h1, hx⟩ | ⟨rfl, hx, hl⟩ | ⟨rfl, hx, hl⟩ | ⟨rfl, hx, hl⟩⟩ := h
  · have hb : bytesN 5 n c (a :: x).length = (lettersC c).size 1 + (digitsC c).size n := rfl
    rw [hb] at hlen
    unfold textL
    rw [if_pos rfl, if_pos (by omega)]
  · have ht := all_d (c := c) (told_ok l.length (by omega))
    have hp : putBytes 2 c l = (digitsC c).put (told l.length) ++ (digitsC c).put l := rfl
    have e1 := put_len (good_digits c).1 ht
    have e1' : (((digitsC c).put (told l.length)).length : Int) = (digitsC c).size 2 := e1
    have e2 := put_len (good_digits c).1 (all_d (c := c) hx)
    have hb : bytesN 2 n c l.length = (digitsC c).size 2 + (digitsC c).size l.length := rfl
    rw [hb] at hlen
    unfold textL
    rw [if_neg (by decide), if_pos rfl]
    by_cases hs : (i : Int) < (digitsC c).size 2
    · rw [next_short (by omega)]
      rw [if_pos (by simp)]
    · have hcut : (putBytes 2 c l).take i = (digitsC c).put (told l.length) ++ ((digitsC c).put l).take (i - ((digitsC c).put (told l.length)).length) := by
        rw [hp, List.take_append, List.take_of_length_le (by omega)]
      have h2 := next_put (good_digits c).1 ht (r := ((digitsC c).put l).take (i - ((digitsC c).put (told l.length)).length)) (n := 2) rfl
      have hz := told_size l.length
      rw [if_pos (by omega)] at hz
      rw [hcut, h2]
      simp only
      rw [if_neg (by simp), hz, if_neg (by omega), next_short (by rw [List.length_take]; omega)]
  · have hb : bytesN 1 n c l.length = (digitsC c).size n := rfl
    rw [hb] at hlen
    have e : textL 1 n c ((putBytes 1 c l).take i) = nextL (digitsC c) n ((putBytes 1 c l).take i) 0 := rfl
    rw [e, next_short (by omega)]
  · have hb : bytesN 3 n c l.length = (lettersC c).size n := rfl
    rw [hb] at hlen
    have e : textL 3 n c ((putBytes 3 c l).take i) = nextL (lettersC c) n ((putBytes 3 c l).take i) 0 := rfl
    rw [e, next_short (by omega)]
  · have hb : bytesN 4 n c l.length = (rawC c).size (2 * n) := rfl
    rw [hb] at hlen
    have e : textL 4 n c ((putBytes 4 c l).take i) = nextL (rawC c) (2 * n) ((putBytes 4 c l).take i) 0 := rfl
    rw [e, next_short (by omega)]
theorem front {k n c : Int} {b : List UInt8} (hm : mayB k n c = true) (h : (textL k n c b).2.2 = 0) : b = putBytes k c (textL k n c b).1 ++ (textL k n c b).2.1 := by
  have hm' : 1 ≤ k ∧ k ≤ 5 ∧ 1 ≤ n ∧ n ≤ 64 ∧ 1 ≤ c ∧ c ≤ 3 := by simpa [mayB] using hm
  rcases (show k = 1 ∨ k = 2 ∨ k = 3 ∨ k = 4 ∨ k = 5 by omega) with rfl | rfl | rfl | rfl | rfl
  · have e : textL 1 n c b = nextL (digitsC c) n b 0 := rfl
    rw [e] at h ⊢
    have hz := (next_zero (good_digits c).1 (by omega) h).2.2.2
    have hp : ∀ x, putBytes 1 c x = (digitsC c).put x := fun _ => rfl
    rw [hp]
    exact hz
  · unfold textL at h ⊢
    rw [if_neg (by decide), if_pos rfl] at h ⊢
    by_cases h1 : (nextL (digitsC c) 2 b 0).2.2 ≠ 0
    · rw [if_pos h1] at h
      exact absurd h h1
    · rw [if_neg h1] at h ⊢
      obtain ⟨_, ha, hl, hb⟩ := next_zero (good_digits c).1 (n := 2) (by decide) (by simpa using h1)
      generalize nextL (digitsC c) 2 b 0 = A at h ha hl hb ⊢
      obtain ⟨t, r, e⟩ := A
      simp only at h ha hl hb ⊢
      rw [(good_digits c).2] at ha
      have hr := toldN_range t
      obtain ⟨he, ha2, hl2, hb2⟩ := next_zero (good_digits c).1 (by omega) h
      have ht := toldN_told ha (by omega)
      have hrange : ¬ (toldN t < 1 ∨ n < toldN t) := by
        intro hc
        rw [if_pos hc] at he
        cases he
      rw [if_neg hrange] at hl2 hb2 ⊢
      generalize nextL (digitsC c) (toldN t) r 0 = B at hl2 hb2 ⊢
      obtain ⟨t2, r2, e2⟩ := B
      simp only at hl2 hb2 ⊢
      have hp : putBytes 2 c t2 = (digitsC c).put (told t2.length) ++ (digitsC c).put t2 := rfl
      rw [hp, show t2.length = (toldN t).toNat by omega, ht, List.append_assoc, ← hb2]
      exact hb
  · have e : textL 3 n c b = nextL (lettersC c) n b 0 := rfl
    rw [e] at h ⊢
    have hz := (next_zero (good_letters c).1 (by omega) h).2.2.2
    have hp : ∀ x, putBytes 3 c x = (lettersC c).put x := fun _ => rfl
    rw [hp]
    exact hz
  · have e : textL 4 n c b = nextL (rawC c) (2 * n) b 0 := rfl
    rw [e] at h ⊢
    have hz := (next_zero (good_raw c).1 (by omega) h).2.2.2
    have hp : ∀ x, putBytes 4 c x = (rawC c).put x := fun _ => rfl
    rw [hp]
    exact hz
  · unfold textL at h ⊢
    rw [if_pos rfl] at h ⊢
    by_cases h1 : (b.length : Int) < (lettersC c).size 1 + (digitsC c).size n
    · rw [if_pos h1] at h; cases h
    · rw [if_neg h1] at h ⊢
      simp only at h ⊢
      obtain ⟨he, ha2, hl2, hb2⟩ := next_zero (good_digits c).1 (by omega) h
      obtain ⟨_, ha, hl, hb⟩ := next_zero (good_letters c).1 (by decide) he
      generalize nextL (lettersC c) 1 b 0 = A at *
      obtain ⟨t, r, e⟩ := A
      simp only at *
      generalize nextL (digitsC c) n r e = B at *
      obtain ⟨t2, r2, e2⟩ := B
      simp only at *
      obtain ⟨x, rfl⟩ : ∃ x, t = [x] := by
        match t, (show t.length = 1 by omega) with
        | [x], _ => exact ⟨x, rfl⟩
      have hp : putBytes 5 c ([x] ++ t2) = (lettersC c).put [x] ++ (digitsC c).put t2 := rfl
      rw [hp, List.append_assoc, ← hb2]
      exact hb
theorem fit_size {k n c : Int} {l : List UInt8} (h : Fit k n c l) : (l.length : Int) ≤ 200 := by
  obtain ⟨hn, ⟨rfl, a, x, rfl, ha, hx, hl⟩ | ⟨rfl, h0, h1, hx⟩ | ⟨rfl, hx, hl⟩ | ⟨rfl, hx, hl⟩ | ⟨rfl, hx, hl⟩⟩ := h
  · simp only [List.length_cons]; omega
  · omega
  · omega
  · omega
  · omega
theorem bytes_small {k n c : Int} {l : List UInt8} (h : Fit k n c l) : (putBytes k c l).length ≤ 1000 := by
  have h1 := bytes_len h
  have h2 := fit_size h
  have hn := h.1
  have s1 := size_range (lettersC c) (n := 1) (by decide) (by decide)
  have s2 := size_range (digitsC c) (n := 2) (by decide) (by decide)
  have sz : ∀ (ck : CK) (m : Int), 0 ≤ m → m ≤ 200 → ck.size m ≤ 200 := by
    intro ck m a b
    cases ck with
    | plain f t => exact b
    | packed d => show (m + 1) / 2 ≤ 200; omega
  have a1 := sz (lettersC c) 1 (by decide) (by decide)
  have a2 := sz (digitsC c) 2 (by decide) (by decide)
  have a3 := sz (digitsC c) n (by omega) (by omega)
  have a4 := sz (digitsC c) l.length (by omega) (by omega)
  have a5 := sz (lettersC c) n (by omega) (by omega)
  have a6 := sz (rawC c) (2 * n) (by omega) (by omega)
  unfold bytesN at h1
  split at h1
  · omega
  · split at h1
    · omega
    · split at h1
      · omega
      · split at h1 <;> omega
theorem putR_of {k n c : Int} {s : ByteArray} (l0 : List Int) (h : checkR k n c s.data.toList = 0) : putR l0 k n c s = (l0 ++ nums8 (putBytes k c s.data.toList), 0) := by
  unfold putR
  rw [if_pos h]
theorem str_nums (l : List UInt8) : strOfNums (nums8 l) = ⟨l.toArray⟩ := by
  unfold strOfNums nums8
  rw [List.map_map]
  have : ((fun n : Int => UInt8.ofNat n.toNat) ∘ fun b : UInt8 => (b.toNat : Int)) = id := by
    funext b
    simp
  rw [this, List.map_id]
theorem arr_list {a b : ByteArray} (h : a.data.toList = b.data.toList) : a = b := by
  cases a; cases b
  simp only [ByteArray.mk.injEq]
  exact Array.ext' h
theorem takeR_zero {l : List Int} {k n c : Int} (h : (takeR l k n c).2.2 = 0) : checkR k n c (takeR l k n c).1.data.toList = 0 ∧ (strOfNums l).data.toList = putBytes k c (takeR l k n c).1.data.toList ++ (strOfNums (takeR l k n c).2.1).data.toList := by
  unfold takeR at h ⊢
  by_cases hm : mayB k n c = true
  · rw [if_pos hm] at h ⊢
    by_cases he : (textL k n c (strOfNums l).data.toList).2.2 ≠ 0
    · rw [if_pos he] at h
      exact absurd h he
    · rw [if_neg he] at h ⊢
      by_cases hr : rightB k n (textL k n c (strOfNums l).data.toList).1 = true
      · rw [if_pos hr]
        refine ⟨?_, ?_⟩
        · show checkR k n c (textL k n c (strOfNums l).data.toList).1 = 0
          simp [checkR, hm, hr]
        · simp only
          rw [str_nums]
          exact front hm (by simpa using he)
      · rw [if_neg hr] at h
        cases h
  · rw [if_neg hm] at h
    cases h
theorem takeR_back {k n c : Int} {t : List UInt8} (h : checkR k n c t = 0) (l : List Int) (r : List UInt8) (hl : (strOfNums l).data.toList = putBytes k c t ++ r) : takeR l k n c = (⟨t.toArray⟩, nums8 r, 0) := by
  obtain ⟨hm, hr⟩ := check_zero h
  have hb := back (fit_of h) r
  unfold takeR
  rw [if_pos hm, hl, hb]
  simp only
  rw [if_neg (by simp), if_pos hr]
end Go.Proofs.YtommklkihjmgcaaGreatDoor.fieldl
