/- Walks of layer 4: Put. Conditions: as each theorem says. -/
import Derived.Test.YtcgfbdleapjigaaFieldB
import Derived.Test.YtcgfbdleapjigaaWWords
import Derived.Test.YtcgfbdleapjigaaWLast
import Derived.Test.YtcgfbdleapjigaaWGuard
import Derived.Test.YtcgfbdleapjigaaWMore
import Derived.Lib.AppendStr
import Derived.Deep.RegionHeld3
namespace Go.Proofs.Ytcgfbdleapjigaa.fieldw
open Go.RowKit Go.Proofs.Ytcgfbdleapjigaa.fieldp Go.Proofs.YtcgfbdleapjigaaW.PrintWords Go.Proofs.YtcgfbdleapjigaaW.PrintLast

theorem infoU8 : (Try.prog.info? 5).map (fun i => (i.zero, i.size, i.bytes)) = some (some (.int .u8 0), 1, 1) := by kernel_rfl

def told (n : Nat) : List UInt8 := [tenL.getD (n / 10) 0, tenL.getD (n % 10) 0]
def nums8 (l : List UInt8) : List Int := l.map fun b => (b.toNat : Int)
def putBytes (k c : Int) (l : List UInt8) : List UInt8 :=
  if k = 5 then (lettersC c).put (l.take 1) ++ (digitsC c).put l.tail
  else if k = 2 then (digitsC c).put (told l.length) ++ (digitsC c).put l
  else if k = 1 then (digitsC c).put l
  else if k = 3 then (lettersC c).put l
  else (rawC c).put l

def Enters (g : Nat) : Prop := ∀ (args : Array Value) (w : World), (callFunc g args).run Try.prog w = .ok (.enter g args) w
/-- What a function value of a code does when it puts. -/
def PutsAs (g : Nat) (q : Array Value) (w : World) (s : ByteArray) (x : List UInt8) : Prop :=
  ∀ w' : World, (∀ p v, w.cell? p = some v → w'.cell? p = some v) → Calls Try.prog g (#[.string s] ++ q) w' fun e w'' => e = .returned (.string ⟨x.toArray⟩) ∧ Below w'.heap.size w' w''

theorem CodeAt.shape {w : World} {lo : Nat} {v : Value} {ck : CK} (h : CodeAt w lo v ck) : ∃ g0 q0 g1 g2 q2, v = .agg #[.func (.func g0) #[] q0, .func (.func g1) #[] #[], .func (.func g2) #[] q2] := by
  cases ck with
  | plain f t =>
    obtain ⟨a, b, e, _⟩ := h
    exact ⟨_, _, _, _, _, e⟩
  | packed d =>
    obtain ⟨a, e, _⟩ := h
    exact ⟨_, _, _, _, _, e⟩

theorem keep3 {w : World} {p : Addr} {v : Value} (h : w.cell? p = some v) (o1 o2 o3 : Obj) : (((w.alloc o1).alloc o2).alloc o3).cell? p = some v := by
  have hl := World.block_lt_of_cell? w _ h
  have hb : Below w.heap.size w (((w.alloc o1).alloc o2).alloc o3) := (((Below.refl _ _).alloc (Nat.le_refl _) _).alloc (by simp) _).alloc (by simp; omega) _
  exact (hb.cell hl).trans h

theorem size_arr (l : List UInt8) : (⟨l.toArray⟩ : ByteArray).size = l.length := by simp [ByteArray.size]
theorem told_length (n : Nat) : (told n).length = 2 := rfl
theorem put_length (c : CK) (l : List UInt8) : (c.put l).length ≤ l.length + 1 := by
  cases c with
  | plain f t =>
    simp only [CK.put]
    cases h : turnL f.data.toList t.data.toList l with
    | none => simp
    | some a => have := turnL_length _ _ _ _ h; simp; omega
  | packed d =>
    simp only [CK.put, packL]
    have h := evened_even l
    rw [packE_length ((evened l).length / 2) _ (by omega)]
    have : (evened l).length ≤ l.length + 1 := by unfold evened; split <;> simp
    omega

def putOkC : CK → ByteArray → Prop
  | .plain f t, _ => f.size ≤ t.size
  | .packed _, s => ∀ x ∈ s.data.toList, isHex x
theorem CodeAt.puts {w : World} {lo : Nat} {v : Value} {ck : CK} (h : CodeAt w lo v ck) : ∃ g0 q0 g1 g2 q2, v = .agg #[.func (.func g0) #[] q0, .func (.func g1) #[] #[], .func (.func g2) #[] q2] ∧ Enters g0 ∧ ∀ s : ByteArray, s.size ≤ 100000 → putOkC ck s → PutsAs g0 q0 w s (ck.put s.data.toList) := by
  cases ck with
  | plain f t =>
    obtain ⟨a, b, e, ha, hb, _⟩ := h
    exact ⟨_, _, _, _, _, e, fun args W => enters_ Try.func58 (by kernel_rfl) rfl args W, fun s hs hp w' hk => put_plain s f t a b w' (hk _ _ ha) (hk _ _ hb) (by omega) hp⟩
  | packed d =>
    obtain ⟨a, e, ha, _⟩ := h
    exact ⟨_, _, _, _, _, e, fun args W => enters_ Try.func62 (by kernel_rfl) rfl args W, fun s hs hp w' hk => pack_any s w' (by omega) hp⟩

theorem conv2 (W : World) (a b : UInt8) (g : Nat) (hg : g = W.heap.size) : (convert 22 9 (.slice (some ⟨g, 0, none⟩) 2 2)).run Try.prog (W.alloc (.cells #[.int .u8 (a.toNat : Int), .int .u8 (b.toNat : Int)] 5)).drew = .ok (.string ⟨#[a, b]⟩) (W.alloc (.cells #[.int .u8 (a.toNat : Int), .int .u8 (b.toNat : Int)] 5)).drew := by
  subst hg
  refine run_convert_bytes_back _ _ _ 5 ⟨W.heap.size, 0, none⟩ 2 [a, b] Try.underlying22 Try.underlying5 Try.underlying9 ?_
  intro j hj
  match j, hj with
  | 0, _ => go_simp
  | 1, _ => go_simp
theorem told_eq (n : Nat) (hn : n < 100) (h1 : ((n : Int) / 10).toNat < (⟨#[48, 49, 50, 51, 52, 53, 54, 55, 56, 57]⟩ : ByteArray).size) (h2 : ((n : Int).tmod 10).toNat < (⟨#[48, 49, 50, 51, 52, 53, 54, 55, 56, 57]⟩ : ByteArray).size) :
    (⟨#[(⟨#[48, 49, 50, 51, 52, 53, 54, 55, 56, 57]⟩ : ByteArray)[((n : Int) / 10).toNat]'h1, (⟨#[48, 49, 50, 51, 52, 53, 54, 55, 56, 57]⟩ : ByteArray)[((n : Int).tmod 10).toNat]'h2]⟩ : ByteArray) = ⟨(told n).toArray⟩ := by
  have e1 : ((n : Int) / 10).toNat = n / 10 := by omega
  have e2 : ((n : Int).tmod 10).toNat = n % 10 := by rw [Int.tmod_eq_emod_of_nonneg (by omega)]; omega
  have t : ∀ (i : Nat) (h : i < (⟨#[48, 49, 50, 51, 52, 53, 54, 55, 56, 57]⟩ : ByteArray).size), (⟨#[48, 49, 50, 51, 52, 53, 54, 55, 56, 57]⟩ : ByteArray)[i] = tenL.getD i 0 := by
    intro i h
    have h' : i < tenL.length := h
    rw [List.getD_eq_getElem?_getD, List.getElem?_eq_getElem h']
    rfl
  rw [t, t]
  simp only [e1, e2, told]
theorem four {w w2 : World} (hB : Below w.heap.size w w2) (o1 o2 o3 o4 : Obj) : Below w.heap.size w ((((w2.alloc o1).alloc o2).alloc o3).alloc o4).drew :=
  have h := hB.size
  (((((hB.alloc h _).alloc (by simp; omega) _).alloc (by simp; omega) _).alloc (by simp; omega) _)).drew
theorem three {w w2 : World} (hB : Below w.heap.size w w2) (o1 o2 o3 : Obj) : Below w.heap.size w (((w2.alloc o1).alloc o2).alloc o3).drew :=
  have h := hB.size
  ((((hB.alloc h _).alloc (by simp; omega) _).alloc (by simp; omega) _)).drew
theorem keep3d {w2 : World} {p : Addr} {v : Value} (h : w2.cell? p = some v) (o1 o2 o3 : Obj) : ((((w2.alloc o1).alloc o2).alloc o3).drew).cell? p = some v := by
  have hl := World.block_lt_of_cell? w2 _ h
  exact ((three (Below.refl _ _) o1 o2 o3).cell hl).trans h
theorem bytes_app (a b : List UInt8) : bytesOf ((⟨a.toArray⟩ : ByteArray) ++ ⟨b.toArray⟩) = nums8 (a ++ b) := by
  simp [bytesOf, nums8]
theorem cut_head (s : ByteArray) : (s.extract 0 1).data.toList = s.data.toList.take 1 := by simp [ByteArray.data_extract]
theorem cut_tail (s : ByteArray) : (s.extract 1 s.size).data.toList = s.data.toList.tail := by
  simp [ByteArray.data_extract]
  exact List.take_of_length_le (by simp)
theorem keep4 {w2 : World} {p : Addr} {v : Value} (h : w2.cell? p = some v) (o1 o2 o3 o4 : Obj) : (((((w2.alloc o1).alloc o2).alloc o3).alloc o4).drew).cell? p = some v := by
  have hl := World.block_lt_of_cell? w2 _ h
  exact ((four (Below.refl _ _) o1 o2 o3 o4).cell hl).trans h

set_option maxHeartbeats 4000000 in
set_option maxRecDepth 100000 in
theorem put_n (n c : Int) (s : ByteArray) (A0 : Option Addr) (c0 : Nat) (l0 : List Int) (w : World) (hs : s.size ≤ 1000) (hl0 : l0.length ≤ 100000000) (hr0 : Kd.C (Kd.int .u8) w A0 l0.length l0) (_hc0 : l0.length ≤ c0)
    (hck : checkR 1 n c s.data.toList = 0) (hp : putOkC (digitsC c) s) :
    Calls Try.prog 13 #[.slice A0 l0.length c0, .agg #[.int .i64 1, .int .i64 n, .int .i64 c], .string s] w fun e w' => ∃ v0_ : Value, e = .returned (.tuple #[v0_, .int .i64 0]) ∧ Kd.R (Kd.int .u8) 5 w' w.heap.size (fun _ => True) v0_ (l0 ++ nums8 (putBytes 1 c s.data.toList)) ∧ Below w.heap.size w w' := by
  have HCK := check_any 1 n c s
  rw [hck] at HCK
  have HK := Lib.hid (fun w => HCK w (by omega))
  have HC := Lib.hid (codes_any 1 n c)
  have HR0 := Aside0.mk hr0
  clear HCK hck hr0
  go_enter Try.func13, Try.ntmps13
  go_wp2_with fail
  refine (HK.out _).mono ?_
  rintro e w1 ⟨rfl, hb1⟩
  obtain ⟨hc1, hf1⟩ := bcell hb1
  have hz1 : w.heap.size + 1 ≤ w1.heap.size := by have := hb1.size; simp at this; omega
  have HB1 := Aside0.mk (((Below.refl w.heap.size w).alloc (Nat.le_refl _) _).trans (hb1.mono (by simp)))
  clear hb1
  go_wp2_with fail
  refine (HC.out _).mono ?_
  rintro e w2 ⟨vl, vd, vr, rfl, hcl, hcd, hcr, hb2⟩
  obtain ⟨x0, x1, x2, x3, x4, rfl, hentX, hputX⟩ := hcl.puts
  obtain ⟨y0, y1, y2, y3, y4, rfl, hentY, hputY⟩ := hcr.puts
  obtain ⟨z0, z1, z2, z3, z4, rfl, hentZ, hputZ⟩ := hcd.puts
  have HE := Lib.hid hentZ
  have HP := Lib.hid (hputZ s (by omega) hp)
  clear hentX hentY hentZ hputX hputY hputZ
  have hz2 : w.heap.size < w2.heap.size := by have := hb2.size; omega
  have hk0 : w2.cell? ⟨w.heap.size, 0, none⟩ = some (.int .i64 1) := by rw [hb2.cell (p := ⟨w.heap.size, 0, none⟩) (by show w.heap.size < _; omega), hc1 _ _ (by simp)]; go_simp
  have hk1 : w2.cell? ⟨w.heap.size, 1, none⟩ = some (.int .i64 n) := by rw [hb2.cell (p := ⟨w.heap.size, 1, none⟩) (by show w.heap.size < _; omega), hc1 _ _ (by simp)]; go_simp
  have hk0' := fun o1 o2 o3 => keep3 hk0 o1 o2 o3
  have hk1' := fun o1 o2 o3 => keep3 hk1 o1 o2 o3
  have hkp := Lib.hid (fun (p : Addr) (v : Value) (h : w2.cell? p = some v) o1 o2 o3 => keep3 h o1 o2 o3)
  clear hc1 hf1 hk0 hk1
  have HB2 := Aside0.mk (HB1.out.trans (hb2.mono HB1.out.size))
  clear hb2 hcl hcr hcd
  go_wp2_with fail
  rw [HE.out, Oper.upon_enter]
  refine (HP.out _ (fun p v h => hkp.out p v h _ _ _)).mono ?_
  rintro e w3 ⟨rfl, hb3⟩
  have HB3 := Aside0.mk (HB2.out.trans (((((Below.refl _ _).alloc (Nat.le_refl _) _).alloc (by simp) _).alloc (by simp; omega) _).trans (hb3.mono (by simp; omega)) |>.mono HB2.out.size))
  clear hb3
  generalize hX : (⟨((digitsC c).put s.data.toList).toArray⟩ : ByteArray) = X
  have HX := Aside0.mk hX
  clear hX
  have HXs : X.size ≤ 1000000 := by
    have := put_length (digitsC c) s.data.toList
    rw [← HX.out, size_arr]
    rw [size_list] at this
    omega
  go_wp2_with (first
    | ((with_reducible refine gate_dst (N := 75) rfl ?_); refine Kd.R_lit (Kd.int .u8) _ 5 ?hg (N := 75) ?hd (xs := ([] : List Int)) (inner := []) (ok := fun _ => True) (okp := fun _ => True) ?hr ?hp (fun _ hk => hk) trivial HB3.out HB3.out.size (by simp) ?_; (case hd => rfl); (case hg => rfl); (case hr => first | (go_simp; done) | (go_simp; rfl)); (case hp => exact Reps.none _ _); intro v4 w4 ho hb hg_ hnew_; clear hg_ hnew_; have HO4 := Aside0.mk ho; have HB4 := Aside0.mk hb; clear ho hb)
    | ((with_reducible refine gate_builtin (b := .append) (xs := #[.tmp 75, .tmp 76]) rfl ?_); at_builtin; refine Kd.R_append_rows (Kd.int .u8) (w0 := w) w.heap.size rfl (.tmp 75) (.tmp 76) 22 5 (.int .u8 0) 1 rfl Try.underlying22 infoU8 rfl (by decide) (by omega) v4 [] l0 _ _ _ (fun _ => True) (fun _ => False) rfl rfl ?aO ?aR (fun _ _ h => h) (fun _ h => h.elim) (fun _ _ => trivial) ?aB ?aS ?aL ?_; (case aO => exact HO4.out); (case aR => exact Kd.C_below HR0.out HB4.out); (case aB => exact HB4.out); (case aS => exact HB4.out.size); (case aL => simp; omega); intro v5 w5 ho hb hg_ hat_; clear hg_ hat_; rw [List.nil_append] at ho; have HO5 := Aside0.mk ho; have HB5 := Aside0.mk hb; clear ho hb)
    | (at_builtin; refine print_append_str (w0 := w) w.heap.size rfl (.tmp 77) _ 22 9 5 rfl Try.underlying22 Try.underlying9 infoU8 v5 l0 X rfl rfl ?aO ?aB ?aS ?aL ?_; (case aO => exact Kd.own_of_R HO5.out); (case aB => exact HB5.out); (case aS => exact HB5.out.size); (case aL => omega); intro v6 w6 ho0 hb hg_; clear hg_; have HO6 := Aside0.mk (Kd.R_of_own (h1 := fun _ => rfl) (ok := fun _ => True) ho0 (fun _ _ => trivial)); have HB6 := Aside0.mk hb; clear ho0 hb))
  go_ret2
  have e : bytesOf X = nums8 (putBytes 1 c s.data.toList) := by rw [← HX.out]; rfl
  exact ⟨v6, rfl, e ▸ HO6.out, HB6.out⟩

set_option maxHeartbeats 4000000 in
set_option maxRecDepth 100000 in
theorem put_an (n c : Int) (s : ByteArray) (A0 : Option Addr) (c0 : Nat) (l0 : List Int) (w : World) (hs : s.size ≤ 1000) (hl0 : l0.length ≤ 100000000) (hr0 : Kd.C (Kd.int .u8) w A0 l0.length l0) (_hc0 : l0.length ≤ c0)
    (hck : checkR 3 n c s.data.toList = 0) (hp : putOkC (lettersC c) s) :
    Calls Try.prog 13 #[.slice A0 l0.length c0, .agg #[.int .i64 3, .int .i64 n, .int .i64 c], .string s] w fun e w' => ∃ v0_ : Value, e = .returned (.tuple #[v0_, .int .i64 0]) ∧ Kd.R (Kd.int .u8) 5 w' w.heap.size (fun _ => True) v0_ (l0 ++ nums8 (putBytes 3 c s.data.toList)) ∧ Below w.heap.size w w' := by
  have HCK := check_any 3 n c s
  rw [hck] at HCK
  have HK := Lib.hid (fun w => HCK w (by omega))
  have HC := Lib.hid (codes_any 3 n c)
  have HR0 := Aside0.mk hr0
  clear HCK hck hr0
  go_enter Try.func13, Try.ntmps13
  go_wp2_with fail
  refine (HK.out _).mono ?_
  rintro e w1 ⟨rfl, hb1⟩
  obtain ⟨hc1, hf1⟩ := bcell hb1
  have hz1 : w.heap.size + 1 ≤ w1.heap.size := by have := hb1.size; simp at this; omega
  have HB1 := Aside0.mk (((Below.refl w.heap.size w).alloc (Nat.le_refl _) _).trans (hb1.mono (by simp)))
  clear hb1
  go_wp2_with fail
  refine (HC.out _).mono ?_
  rintro e w2 ⟨vl, vd, vr, rfl, hcl, hcd, hcr, hb2⟩
  obtain ⟨x0, x1, x2, x3, x4, rfl, hentX, hputX⟩ := hcl.puts
  obtain ⟨y0, y1, y2, y3, y4, rfl, hentY, hputY⟩ := hcr.puts
  obtain ⟨z0, z1, z2, z3, z4, rfl, hentZ, hputZ⟩ := hcd.puts
  have HE := Lib.hid hentX
  have HP := Lib.hid (hputX s (by omega) hp)
  clear hentX hentY hentZ hputX hputY hputZ
  have hz2 : w.heap.size < w2.heap.size := by have := hb2.size; omega
  have hk0 : w2.cell? ⟨w.heap.size, 0, none⟩ = some (.int .i64 3) := by rw [hb2.cell (p := ⟨w.heap.size, 0, none⟩) (by show w.heap.size < _; omega), hc1 _ _ (by simp)]; go_simp
  have hk1 : w2.cell? ⟨w.heap.size, 1, none⟩ = some (.int .i64 n) := by rw [hb2.cell (p := ⟨w.heap.size, 1, none⟩) (by show w.heap.size < _; omega), hc1 _ _ (by simp)]; go_simp
  have hk0' := fun o1 o2 o3 => keep3 hk0 o1 o2 o3
  have hk1' := fun o1 o2 o3 => keep3 hk1 o1 o2 o3
  have hkp := Lib.hid (fun (p : Addr) (v : Value) (h : w2.cell? p = some v) o1 o2 o3 => keep3 h o1 o2 o3)
  clear hc1 hf1 hk0 hk1
  have HB2 := Aside0.mk (HB1.out.trans (hb2.mono HB1.out.size))
  clear hb2 hcl hcr hcd
  go_wp2_with fail
  rw [HE.out, Oper.upon_enter]
  refine (HP.out _ (fun p v h => hkp.out p v h _ _ _)).mono ?_
  rintro e w3 ⟨rfl, hb3⟩
  have HB3 := Aside0.mk (HB2.out.trans (((((Below.refl _ _).alloc (Nat.le_refl _) _).alloc (by simp) _).alloc (by simp; omega) _).trans (hb3.mono (by simp; omega)) |>.mono HB2.out.size))
  clear hb3
  generalize hX : (⟨((lettersC c).put s.data.toList).toArray⟩ : ByteArray) = X
  have HX := Aside0.mk hX
  clear hX
  have HXs : X.size ≤ 1000000 := by
    have := put_length (lettersC c) s.data.toList
    rw [← HX.out, size_arr]
    rw [size_list] at this
    omega
  go_wp2_with (first
    | ((with_reducible refine gate_dst (N := 75) rfl ?_); refine Kd.R_lit (Kd.int .u8) _ 5 ?hg (N := 75) ?hd (xs := ([] : List Int)) (inner := []) (ok := fun _ => True) (okp := fun _ => True) ?hr ?hp (fun _ hk => hk) trivial HB3.out HB3.out.size (by simp) ?_; (case hd => rfl); (case hg => rfl); (case hr => first | (go_simp; done) | (go_simp; rfl)); (case hp => exact Reps.none _ _); intro v4 w4 ho hb hg_ hnew_; clear hg_ hnew_; have HO4 := Aside0.mk ho; have HB4 := Aside0.mk hb; clear ho hb)
    | ((with_reducible refine gate_builtin (b := .append) (xs := #[.tmp 75, .tmp 76]) rfl ?_); at_builtin; refine Kd.R_append_rows (Kd.int .u8) (w0 := w) w.heap.size rfl (.tmp 75) (.tmp 76) 22 5 (.int .u8 0) 1 rfl Try.underlying22 infoU8 rfl (by decide) (by omega) v4 [] l0 _ _ _ (fun _ => True) (fun _ => False) rfl rfl ?aO ?aR (fun _ _ h => h) (fun _ h => h.elim) (fun _ _ => trivial) ?aB ?aS ?aL ?_; (case aO => exact HO4.out); (case aR => exact Kd.C_below HR0.out HB4.out); (case aB => exact HB4.out); (case aS => exact HB4.out.size); (case aL => simp; omega); intro v5 w5 ho hb hg_ hat_; clear hg_ hat_; rw [List.nil_append] at ho; have HO5 := Aside0.mk ho; have HB5 := Aside0.mk hb; clear ho hb)
    | (at_builtin; refine print_append_str (w0 := w) w.heap.size rfl (.tmp 77) _ 22 9 5 rfl Try.underlying22 Try.underlying9 infoU8 v5 l0 X rfl rfl ?aO ?aB ?aS ?aL ?_; (case aO => exact Kd.own_of_R HO5.out); (case aB => exact HB5.out); (case aS => exact HB5.out.size); (case aL => omega); intro v6 w6 ho0 hb hg_; clear hg_; have HO6 := Aside0.mk (Kd.R_of_own (h1 := fun _ => rfl) (ok := fun _ => True) ho0 (fun _ _ => trivial)); have HB6 := Aside0.mk hb; clear ho0 hb))
  go_ret2
  have e : bytesOf X = nums8 (putBytes 3 c s.data.toList) := by rw [← HX.out]; rfl
  exact ⟨v6, rfl, e ▸ HO6.out, HB6.out⟩

set_option maxHeartbeats 4000000 in
set_option maxRecDepth 100000 in
theorem put_b (n c : Int) (s : ByteArray) (A0 : Option Addr) (c0 : Nat) (l0 : List Int) (w : World) (hs : s.size ≤ 1000) (hl0 : l0.length ≤ 100000000) (hr0 : Kd.C (Kd.int .u8) w A0 l0.length l0) (_hc0 : l0.length ≤ c0)
    (hck : checkR 4 n c s.data.toList = 0) (hp : putOkC (rawC c) s) :
    Calls Try.prog 13 #[.slice A0 l0.length c0, .agg #[.int .i64 4, .int .i64 n, .int .i64 c], .string s] w fun e w' => ∃ v0_ : Value, e = .returned (.tuple #[v0_, .int .i64 0]) ∧ Kd.R (Kd.int .u8) 5 w' w.heap.size (fun _ => True) v0_ (l0 ++ nums8 (putBytes 4 c s.data.toList)) ∧ Below w.heap.size w w' := by
  have HCK := check_any 4 n c s
  rw [hck] at HCK
  have HK := Lib.hid (fun w => HCK w (by omega))
  have HC := Lib.hid (codes_any 4 n c)
  have HR0 := Aside0.mk hr0
  clear HCK hck hr0
  go_enter Try.func13, Try.ntmps13
  go_wp2_with fail
  refine (HK.out _).mono ?_
  rintro e w1 ⟨rfl, hb1⟩
  obtain ⟨hc1, hf1⟩ := bcell hb1
  have hz1 : w.heap.size + 1 ≤ w1.heap.size := by have := hb1.size; simp at this; omega
  have HB1 := Aside0.mk (((Below.refl w.heap.size w).alloc (Nat.le_refl _) _).trans (hb1.mono (by simp)))
  clear hb1
  go_wp2_with fail
  refine (HC.out _).mono ?_
  rintro e w2 ⟨vl, vd, vr, rfl, hcl, hcd, hcr, hb2⟩
  obtain ⟨x0, x1, x2, x3, x4, rfl, hentX, hputX⟩ := hcl.puts
  obtain ⟨y0, y1, y2, y3, y4, rfl, hentY, hputY⟩ := hcr.puts
  obtain ⟨z0, z1, z2, z3, z4, rfl, hentZ, hputZ⟩ := hcd.puts
  have HE := Lib.hid hentY
  have HP := Lib.hid (hputY s (by omega) hp)
  clear hentX hentY hentZ hputX hputY hputZ
  have hz2 : w.heap.size < w2.heap.size := by have := hb2.size; omega
  have hk0 : w2.cell? ⟨w.heap.size, 0, none⟩ = some (.int .i64 4) := by rw [hb2.cell (p := ⟨w.heap.size, 0, none⟩) (by show w.heap.size < _; omega), hc1 _ _ (by simp)]; go_simp
  have hk1 : w2.cell? ⟨w.heap.size, 1, none⟩ = some (.int .i64 n) := by rw [hb2.cell (p := ⟨w.heap.size, 1, none⟩) (by show w.heap.size < _; omega), hc1 _ _ (by simp)]; go_simp
  have hk0' := fun o1 o2 o3 => keep3 hk0 o1 o2 o3
  have hk1' := fun o1 o2 o3 => keep3 hk1 o1 o2 o3
  have hkp := Lib.hid (fun (p : Addr) (v : Value) (h : w2.cell? p = some v) o1 o2 o3 => keep3 h o1 o2 o3)
  clear hc1 hf1 hk0 hk1
  have HB2 := Aside0.mk (HB1.out.trans (hb2.mono HB1.out.size))
  clear hb2 hcl hcr hcd
  go_wp2_with fail
  rw [HE.out, Oper.upon_enter]
  refine (HP.out _ (fun p v h => hkp.out p v h _ _ _)).mono ?_
  rintro e w3 ⟨rfl, hb3⟩
  have HB3 := Aside0.mk (HB2.out.trans (((((Below.refl _ _).alloc (Nat.le_refl _) _).alloc (by simp) _).alloc (by simp; omega) _).trans (hb3.mono (by simp; omega)) |>.mono HB2.out.size))
  clear hb3
  generalize hX : (⟨((rawC c).put s.data.toList).toArray⟩ : ByteArray) = X
  have HX := Aside0.mk hX
  clear hX
  have HXs : X.size ≤ 1000000 := by
    have := put_length (rawC c) s.data.toList
    rw [← HX.out, size_arr]
    rw [size_list] at this
    omega
  go_wp2_with (first
    | ((with_reducible refine gate_dst (N := 75) rfl ?_); refine Kd.R_lit (Kd.int .u8) _ 5 ?hg (N := 75) ?hd (xs := ([] : List Int)) (inner := []) (ok := fun _ => True) (okp := fun _ => True) ?hr ?hp (fun _ hk => hk) trivial HB3.out HB3.out.size (by simp) ?_; (case hd => rfl); (case hg => rfl); (case hr => first | (go_simp; done) | (go_simp; rfl)); (case hp => exact Reps.none _ _); intro v4 w4 ho hb hg_ hnew_; clear hg_ hnew_; have HO4 := Aside0.mk ho; have HB4 := Aside0.mk hb; clear ho hb)
    | ((with_reducible refine gate_builtin (b := .append) (xs := #[.tmp 75, .tmp 76]) rfl ?_); at_builtin; refine Kd.R_append_rows (Kd.int .u8) (w0 := w) w.heap.size rfl (.tmp 75) (.tmp 76) 22 5 (.int .u8 0) 1 rfl Try.underlying22 infoU8 rfl (by decide) (by omega) v4 [] l0 _ _ _ (fun _ => True) (fun _ => False) rfl rfl ?aO ?aR (fun _ _ h => h) (fun _ h => h.elim) (fun _ _ => trivial) ?aB ?aS ?aL ?_; (case aO => exact HO4.out); (case aR => exact Kd.C_below HR0.out HB4.out); (case aB => exact HB4.out); (case aS => exact HB4.out.size); (case aL => simp; omega); intro v5 w5 ho hb hg_ hat_; clear hg_ hat_; rw [List.nil_append] at ho; have HO5 := Aside0.mk ho; have HB5 := Aside0.mk hb; clear ho hb)
    | (at_builtin; refine print_append_str (w0 := w) w.heap.size rfl (.tmp 77) _ 22 9 5 rfl Try.underlying22 Try.underlying9 infoU8 v5 l0 X rfl rfl ?aO ?aB ?aS ?aL ?_; (case aO => exact Kd.own_of_R HO5.out); (case aB => exact HB5.out); (case aS => exact HB5.out.size); (case aL => omega); intro v6 w6 ho0 hb hg_; clear hg_; have HO6 := Aside0.mk (Kd.R_of_own (h1 := fun _ => rfl) (ok := fun _ => True) ho0 (fun _ _ => trivial)); have HB6 := Aside0.mk hb; clear ho0 hb))
  go_ret2
  have e : bytesOf X = nums8 (putBytes 4 c s.data.toList) := by rw [← HX.out]; rfl
  exact ⟨v6, rfl, e ▸ HO6.out, HB6.out⟩

set_option maxHeartbeats 4000000 in
set_option maxRecDepth 100000 in
theorem put_x (n c : Int) (s : ByteArray) (A0 : Option Addr) (c0 : Nat) (l0 : List Int) (w : World) (hs : s.size ≤ 1000) (hl0 : l0.length ≤ 100000000) (hr0 : Kd.C (Kd.int .u8) w A0 l0.length l0) (_hc0 : l0.length ≤ c0)
    (hck : checkR 5 n c s.data.toList = 0) (hp : putOkC (digitsC c) (s.extract 1 s.size)) (hp2 : putOkC (lettersC c) (s.extract 0 1)) (hs1 : 1 ≤ s.size) :
    Calls Try.prog 13 #[.slice A0 l0.length c0, .agg #[.int .i64 5, .int .i64 n, .int .i64 c], .string s] w fun e w' => ∃ v0_ : Value, e = .returned (.tuple #[v0_, .int .i64 0]) ∧ Kd.R (Kd.int .u8) 5 w' w.heap.size (fun _ => True) v0_ (l0 ++ nums8 (putBytes 5 c s.data.toList)) ∧ Below w.heap.size w w' := by
  have HCK := check_any 5 n c s
  rw [hck] at HCK
  have HK := Lib.hid (fun w => HCK w (by omega))
  have HC := Lib.hid (codes_any 5 n c)
  have HR0 := Aside0.mk hr0
  clear HCK hck hr0
  go_enter Try.func13, Try.ntmps13
  go_wp2_with fail
  refine (HK.out _).mono ?_
  rintro e w1 ⟨rfl, hb1⟩
  obtain ⟨hc1, hf1⟩ := bcell hb1
  have hz1 : w.heap.size + 1 ≤ w1.heap.size := by have := hb1.size; simp at this; omega
  have HB1 := Aside0.mk (((Below.refl w.heap.size w).alloc (Nat.le_refl _) _).trans (hb1.mono (by simp)))
  clear hb1
  go_wp2_with fail
  refine (HC.out _).mono ?_
  rintro e w2 ⟨vl, vd, vr, rfl, hcl, hcd, hcr, hb2⟩
  obtain ⟨x0, x1, x2, x3, x4, rfl, hentX, hputX⟩ := hcl.puts
  obtain ⟨y0, y1, y2, y3, y4, rfl, hentY, hputY⟩ := hcr.puts
  obtain ⟨z0, z1, z2, z3, z4, rfl, hentZ, hputZ⟩ := hcd.puts
  have HE := Lib.hid hentX
  have HE2 := Lib.hid hentZ
  have HP := Lib.hid (hputZ (s.extract 1 s.size) (by simp; omega) hp)
  have HQ := Lib.hid (hputX (s.extract 0 1) (by simp; omega) hp2)
  clear hentX hentY hentZ hputX hputY hputZ
  have hz2 : w.heap.size < w2.heap.size := by have := hb2.size; omega
  have hk0 : w2.cell? ⟨w.heap.size, 0, none⟩ = some (.int .i64 5) := by rw [hb2.cell (p := ⟨w.heap.size, 0, none⟩) (by show w.heap.size < _; omega), hc1 _ _ (by simp)]; go_simp
  have hk1 : w2.cell? ⟨w.heap.size, 1, none⟩ = some (.int .i64 n) := by rw [hb2.cell (p := ⟨w.heap.size, 1, none⟩) (by show w.heap.size < _; omega), hc1 _ _ (by simp)]; go_simp
  have hk0' := fun o1 o2 o3 => keep3 hk0 o1 o2 o3
  have hk1' := fun o1 o2 o3 => keep3 hk1 o1 o2 o3
  have hkp := Lib.hid (fun (p : Addr) (v : Value) (h : w2.cell? p = some v) o1 o2 o3 => keep3 h o1 o2 o3)
  clear hc1 hf1 hk0 hk1
  have HB2 := Aside0.mk (HB1.out.trans (hb2.mono HB1.out.size))
  clear hb2 hcl hcr hcd
  have hq1 : (0 : Int) ≤ 1 := by decide
  have hq2 : (1 : Int) ≤ (s.size : Int) := by omega
  have hkq := Lib.hid (fun (p : Addr) (v : Value) (h : w2.cell? p = some v) o1 o2 o3 => keep3d h o1 o2 o3)
  have hsx : (s.extract 1 s.size).size = s.size - 1 := by simp
  go_wp2_with fail
  go_region_held3 (fun w' => w'.cell? ⟨w2.heap.size, 0, none⟩ = some (.func (.func x0) #[] x1)) (go_keep)
    (first | (rw [HE.out, Oper.upon_enter]; refine (HQ.out _ (fun p v h => hkq.out p v h _ _ _)).mono ?_; rintro e w3 ⟨rfl, hb3⟩; generalize hX1 : (⟨((lettersC c).put (s.extract 0 1).data.toList).toArray⟩ : ByteArray) = X1; have HX1 := Aside0.mk hX1; clear hX1; have HB3 := Aside0.mk ((three HB2.out _ _ _).trans (hb3.mono (three HB2.out _ _ _).size)); have hcd3 : w3.cell? ⟨w2.heap.size + 1, 0, none⟩ = some (.func (.func z0) #[] z1) := (hb3.cell (by simp <;> omega)).trans (by go_simp); have hcl3 : w3.cell? ⟨w2.heap.size, 0, none⟩ = some (.func (.func x0) #[] x1) := (hb3.cell (by simp <;> omega)).trans (by go_simp); have hkr := Lib.hid (fun (p : Addr) (v : Value) (h : w2.cell? p = some v) => (hb3.cell (World.block_lt_of_cell? _ _ (hkq.out p v h _ _ _))).trans (hkq.out p v h _ _ _)); clear hb3))
  all_goals
    go_wp2_with fail
    rw [HE2.out, Oper.upon_enter]
    refine (HP.out w3 hkr.out).mono ?_
    rintro e w4 ⟨rfl, hb4⟩
    have HB4 := Aside0.mk (HB3.out.trans (hb4.mono HB3.out.size))
    clear hb4
    generalize hX2 : (⟨((digitsC c).put (s.extract 1 s.size).data.toList).toArray⟩ : ByteArray) = X2
    have HX2 := Aside0.mk hX2
    clear hX2
    have HXs : (X1 ++ X2).size ≤ 1000000 := by
      have h1 := put_length (lettersC c) (s.extract 0 1).data.toList
      have h2 := put_length (digitsC c) (s.extract 1 s.size).data.toList
      have e : (X1 ++ X2).size = ((lettersC c).put (s.extract 0 1).data.toList).length + ((digitsC c).put (s.extract 1 s.size).data.toList).length := by rw [← HX1.out, ← HX2.out, ByteArray.size_append]; rfl
      rw [size_list] at h1 h2; simp only [ByteArray.size_extract] at h1 h2
      omega
    have HXn : ¬ (9223372036854775807 < X1.size + X2.size) := by rw [ByteArray.size_append] at HXs; omega
    go_wp2_with (first
      | ((with_reducible refine gate_dst (N := 75) rfl ?_); refine Kd.R_lit (Kd.int .u8) _ 5 ?hg (N := 75) ?hd (xs := ([] : List Int)) (inner := []) (ok := fun _ => True) (okp := fun _ => True) ?hr ?hp (fun _ hk => hk) trivial HB4.out HB4.out.size (by simp) ?_; (case hd => rfl); (case hg => rfl); (case hr => first | (go_simp; done) | (go_simp; rfl)); (case hp => exact Reps.none _ _); intro v4 w4 ho hb hg_ hnew_; clear hg_ hnew_; have HO4 := Aside0.mk ho; have HB4 := Aside0.mk hb; clear ho hb)
      | ((with_reducible refine gate_builtin (b := .append) (xs := #[.tmp 75, .tmp 76]) rfl ?_); at_builtin; refine Kd.R_append_rows (Kd.int .u8) (w0 := w) w.heap.size rfl (.tmp 75) (.tmp 76) 22 5 (.int .u8 0) 1 rfl Try.underlying22 infoU8 rfl (by decide) (by omega) v4 [] l0 _ _ _ (fun _ => True) (fun _ => False) rfl rfl ?aO ?aR (fun _ _ h => h) (fun _ h => h.elim) (fun _ _ => trivial) ?aB ?aS ?aL ?_; (case aO => exact HO4.out); (case aR => exact Kd.C_below HR0.out HB4.out); (case aB => exact HB4.out); (case aS => exact HB4.out.size); (case aL => simp; omega); intro v5 w5 ho hb hg_ hat_; clear hg_ hat_; rw [List.nil_append] at ho; have HO5 := Aside0.mk ho; have HB5 := Aside0.mk hb; clear ho hb)
      | (at_builtin; refine print_append_str (w0 := w) w.heap.size rfl (.tmp 77) _ 22 9 5 rfl Try.underlying22 Try.underlying9 infoU8 v5 l0 (X1 ++ X2) rfl rfl ?aO ?aB ?aS ?aL ?_; (case aO => exact Kd.own_of_R HO5.out); (case aB => exact HB5.out); (case aS => exact HB5.out.size); (case aL => omega); intro v6 w6 ho0 hb hg_; clear hg_; have HO6 := Aside0.mk (Kd.R_of_own (h1 := fun _ => rfl) (ok := fun _ => True) ho0 (fun _ _ => trivial)); have HB6 := Aside0.mk hb; clear ho0 hb))
    go_ret2
    have e : bytesOf (X1 ++ X2) = nums8 (putBytes 5 c s.data.toList) := by rw [← HX1.out, ← HX2.out]; rw [bytes_app, cut_head, cut_tail]; rfl
    exact ⟨v6, rfl, e ▸ HO6.out, HB6.out⟩


end Go.Proofs.Ytcgfbdleapjigaa.fieldw

namespace Go.Proofs.Ytcgfbdleapjigaa.fieldw
open Go.RowKit Go.Proofs.Ytcgfbdleapjigaa.fieldp Go.Proofs.YtcgfbdleapjigaaW.PrintWords Go.Proofs.YtcgfbdleapjigaaW.PrintLast

set_option maxHeartbeats 4000000 in
set_option maxRecDepth 100000 in
theorem put_ll (n c : Int) (s : ByteArray) (A0 : Option Addr) (c0 : Nat) (l0 : List Int) (w : World) (hs : s.size ≤ 1000) (hl0 : l0.length ≤ 100000000) (hr0 : Kd.C (Kd.int .u8) w A0 l0.length l0) (_hc0 : l0.length ≤ c0)
    (hck : checkR 2 n c s.data.toList = 0) (hp : putOkC (digitsC c) s) (hp2 : putOkC (digitsC c) ⟨(told s.size).toArray⟩) (hs100 : s.size < 100) :
    Calls Try.prog 13 #[.slice A0 l0.length c0, .agg #[.int .i64 2, .int .i64 n, .int .i64 c], .string s] w fun e w' => ∃ v0_ : Value, e = .returned (.tuple #[v0_, .int .i64 0]) ∧ Kd.R (Kd.int .u8) 5 w' w.heap.size (fun _ => True) v0_ (l0 ++ nums8 (putBytes 2 c s.data.toList)) ∧ Below w.heap.size w w' := by
  have HCK := check_any 2 n c s
  rw [hck] at HCK
  have HK := Lib.hid (fun w => HCK w (by omega))
  have HC := Lib.hid (codes_any 2 n c)
  have HR0 := Aside0.mk hr0
  clear HCK hck hr0
  go_enter Try.func13, Try.ntmps13
  go_wp2_with fail
  refine (HK.out _).mono ?_
  rintro e w1 ⟨rfl, hb1⟩
  obtain ⟨hc1, hf1⟩ := bcell hb1
  have hz1 : w.heap.size + 1 ≤ w1.heap.size := by have := hb1.size; simp at this; omega
  have HB1 := Aside0.mk (((Below.refl w.heap.size w).alloc (Nat.le_refl _) _).trans (hb1.mono (by simp)))
  clear hb1
  go_wp2_with fail
  refine (HC.out _).mono ?_
  rintro e w2 ⟨vl, vd, vr, rfl, hcl, hcd, hcr, hb2⟩
  obtain ⟨x0, x1, x2, x3, x4, rfl, hentX, hputX⟩ := hcl.puts
  obtain ⟨y0, y1, y2, y3, y4, rfl, hentY, hputY⟩ := hcr.puts
  obtain ⟨z0, z1, z2, z3, z4, rfl, hentZ, hputZ⟩ := hcd.puts
  have HE := Lib.hid hentZ
  have HP := Lib.hid (hputZ s (by omega) hp)
  have HE2 := HE
  have HQ := Lib.hid (hputZ ⟨(told s.size).toArray⟩ (by rw [size_arr, told_length]; omega) hp2)
  clear hentX hentY hentZ hputX hputY hputZ
  have hz2 : w.heap.size < w2.heap.size := by have := hb2.size; omega
  have hk0 : w2.cell? ⟨w.heap.size, 0, none⟩ = some (.int .i64 2) := by rw [hb2.cell (p := ⟨w.heap.size, 0, none⟩) (by show w.heap.size < _; omega), hc1 _ _ (by simp)]; go_simp
  have hk1 : w2.cell? ⟨w.heap.size, 1, none⟩ = some (.int .i64 n) := by rw [hb2.cell (p := ⟨w.heap.size, 1, none⟩) (by show w.heap.size < _; omega), hc1 _ _ (by simp)]; go_simp
  have hk0' := fun o1 o2 o3 => keep3 hk0 o1 o2 o3
  have hk1' := fun o1 o2 o3 => keep3 hk1 o1 o2 o3
  have hkp := Lib.hid (fun (p : Addr) (v : Value) (h : w2.cell? p = some v) o1 o2 o3 => keep3 h o1 o2 o3)
  clear hc1 hf1 hk0 hk1
  have HB2 := Aside0.mk (HB1.out.trans (hb2.mono HB1.out.size))
  clear hb2 hcl hcr hcd
  have hq1 : IntKind.i64.wrap ((s.size : Int) / 10) = (s.size : Int) / 10 := IntWalk.i64_in _ (by omega)
  have hq2 : IntKind.i64.wrap ((s.size : Int) % 10) = (s.size : Int) % 10 := IntWalk.i64_in _ (by omega)
  have hq3 : (0 : Int) ≤ (s.size : Int) / 10 := by omega
  have hq4 : (s.size : Int) / 10 < 10 := by omega
  have hq7 : (s.size : Int).tmod 10 = (s.size : Int) % 10 := by rw [Int.tmod_eq_emod_of_nonneg (by omega)]
  have hq8 : (0 : Int) ≤ (s.size : Int).tmod 10 := by omega
  have hq9 : (s.size : Int).tmod 10 < 10 := by omega
  have hq10 : IntKind.i64.wrap ((s.size : Int).tmod 10) = (s.size : Int).tmod 10 := IntWalk.i64_in _ (by omega)
  clear hq7 hq2
  have hcv := fun o1 o2 o3 a b => conv2 (((w2.alloc o1).alloc o2).alloc o3) a b (w2.heap.size + 1 + 1 + 1) (by simp)
  have HT := Lib.hid (told_eq s.size hs100)
  have hkq := Lib.hid (fun (p : Addr) (v : Value) (h : w2.cell? p = some v) o1 o2 o3 o4 => keep4 h o1 o2 o3 o4)
  go_wp2_with fail
  go_region_with (first | (rw [HE.out, Oper.upon_enter, HT.out]; refine (HQ.out _ (fun p v h => hkq.out p v h _ _ _ _)).mono ?_; rintro e w3 ⟨rfl, hb3⟩; generalize hX1 : (⟨((digitsC c).put (told s.size)).toArray⟩ : ByteArray) = X1; have HX1 := Aside0.mk hX1; clear hX1; have HB3 := Aside0.mk ((four HB2.out _ _ _ _).trans (hb3.mono (four HB2.out _ _ _ _).size)); have hcd3 : w3.cell? ⟨w2.heap.size + 1, 0, none⟩ = some (.func (.func z0) #[] z1) := (hb3.cell (by simp <;> omega)).trans (by go_simp); have hkr := Lib.hid (fun (p : Addr) (v : Value) (h : w2.cell? p = some v) => (hb3.cell (World.block_lt_of_cell? _ _ (hkq.out p v h _ _ _ _))).trans (hkq.out p v h _ _ _ _)); clear hb3))
  all_goals
    go_wp2_with fail
    rw [HE2.out, Oper.upon_enter]
    refine (HP.out w3 hkr.out).mono ?_
    rintro e w4 ⟨rfl, hb4⟩
    have HB4 := Aside0.mk (HB3.out.trans (hb4.mono HB3.out.size))
    clear hb4
    generalize hX2 : (⟨((digitsC c).put s.data.toList).toArray⟩ : ByteArray) = X2
    have HX2 := Aside0.mk hX2
    clear hX2
    have HXs : (X1 ++ X2).size ≤ 1000000 := by
      have h1 := put_length (digitsC c) (told s.size)
      have h2 := put_length (digitsC c) s.data.toList
      have e : (X1 ++ X2).size = ((digitsC c).put (told s.size)).length + ((digitsC c).put s.data.toList).length := by rw [← HX1.out, ← HX2.out, ByteArray.size_append]; rfl
      rw [size_list] at h2; rw [told_length] at h1
      omega
    have HXn : ¬ (9223372036854775807 < X1.size + X2.size) := by rw [ByteArray.size_append] at HXs; omega
    go_wp2_with (first
      | ((with_reducible refine gate_dst (N := 75) rfl ?_); refine Kd.R_lit (Kd.int .u8) _ 5 ?hg (N := 75) ?hd (xs := ([] : List Int)) (inner := []) (ok := fun _ => True) (okp := fun _ => True) ?hr ?hp (fun _ hk => hk) trivial HB4.out HB4.out.size (by simp) ?_; (case hd => rfl); (case hg => rfl); (case hr => first | (go_simp; done) | (go_simp; rfl)); (case hp => exact Reps.none _ _); intro v4 w4 ho hb hg_ hnew_; clear hg_ hnew_; have HO4 := Aside0.mk ho; have HB4 := Aside0.mk hb; clear ho hb)
      | ((with_reducible refine gate_builtin (b := .append) (xs := #[.tmp 75, .tmp 76]) rfl ?_); at_builtin; refine Kd.R_append_rows (Kd.int .u8) (w0 := w) w.heap.size rfl (.tmp 75) (.tmp 76) 22 5 (.int .u8 0) 1 rfl Try.underlying22 infoU8 rfl (by decide) (by omega) v4 [] l0 _ _ _ (fun _ => True) (fun _ => False) rfl rfl ?aO ?aR (fun _ _ h => h) (fun _ h => h.elim) (fun _ _ => trivial) ?aB ?aS ?aL ?_; (case aO => exact HO4.out); (case aR => exact Kd.C_below HR0.out HB4.out); (case aB => exact HB4.out); (case aS => exact HB4.out.size); (case aL => simp; omega); intro v5 w5 ho hb hg_ hat_; clear hg_ hat_; rw [List.nil_append] at ho; have HO5 := Aside0.mk ho; have HB5 := Aside0.mk hb; clear ho hb)
      | (at_builtin; refine print_append_str (w0 := w) w.heap.size rfl (.tmp 77) _ 22 9 5 rfl Try.underlying22 Try.underlying9 infoU8 v5 l0 (X1 ++ X2) rfl rfl ?aO ?aB ?aS ?aL ?_; (case aO => exact Kd.own_of_R HO5.out); (case aB => exact HB5.out); (case aS => exact HB5.out.size); (case aL => omega); intro v6 w6 ho0 hb hg_; clear hg_; have HO6 := Aside0.mk (Kd.R_of_own (h1 := fun _ => rfl) (ok := fun _ => True) ho0 (fun _ _ => trivial)); have HB6 := Aside0.mk hb; clear ho0 hb))
    go_ret2
    have e : bytesOf (X1 ++ X2) = nums8 (putBytes 2 c s.data.toList) := by rw [← HX1.out, ← HX2.out]; rw [bytes_app, ← size_list]; rfl
    exact ⟨v6, rfl, e ▸ HO6.out, HB6.out⟩


end Go.Proofs.Ytcgfbdleapjigaa.fieldw

namespace Go.Proofs.Ytcgfbdleapjigaa.fieldw
open Go.RowKit Go.Proofs.Ytcgfbdleapjigaa.fieldp Go.Proofs.YtcgfbdleapjigaaW.PrintWords Go.Proofs.YtcgfbdleapjigaaW.PrintLast

set_option maxHeartbeats 4000000 in
theorem put_wrong (k n c : Int) (s : ByteArray) (A0 : Option Addr) (c0 : Nat) (l0 : List Int) (w : World) (hs : s.size ≤ 100000000) (hck : checkR k n c s.data.toList ≠ 0) :
    Calls Try.prog 13 #[.slice A0 l0.length c0, .agg #[.int .i64 k, .int .i64 n, .int .i64 c], .string s] w fun e w' => ∃ v0_ : Value, e = .returned (.tuple #[v0_, .int .i64 (checkR k n c s.data.toList)]) ∧ Kd.R (Kd.int .u8) 5 w' w.heap.size (fun _ => True) v0_ [] ∧ Below w.heap.size w w' := by
  have HK := Lib.hid (fun w => check_any k n c s w hs)
  have hne : (checkR k n c s.data.toList != 0) = true := by simpa using hck
  generalize checkR k n c s.data.toList = r at HK hne
  clear hck
  go_enter Try.func13, Try.ntmps13
  go_wp2_with fail
  refine (HK.out _).mono ?_
  rintro e w1 ⟨rfl, hb1⟩
  have HB1 := Aside0.mk (((Below.refl w.heap.size w).alloc (Nat.le_refl _) _).trans (hb1.mono (by simp)))
  clear hb1
  go_wp2_with fail
  go_ret2
  exact ⟨_, rfl, Kd.R_nil _ _ _ _ _, HB1.out⟩

def putR (l0 : List Int) (k n c : Int) (s : ByteArray) : List Int × Int := if checkR k n c s.data.toList = 0 then (l0 ++ nums8 (putBytes k c s.data.toList), 0) else ([], checkR k n c s.data.toList)

set_option maxRecDepth 100000 in
theorem ten_hex {x : UInt8} (h : inRow tenL x = true) : isHex x := by
  unfold inRow at h
  unfold isHex
  have h' : Lib.indexByte tenL x ≠ -1 := by simpa using h
  intro e
  have : ∀ i : Fin 256, Lib.indexByte hexL (UInt8.ofNat i.1) = -1 → Lib.indexByte tenL (UInt8.ofNat i.1) = -1 := by decide
  have h2 := this ⟨x.toNat, x.toNat_lt⟩
  rw [UInt8.ofNat_toNat] at h2
  exact h' (h2 e)
theorem tens_ok {c : Int} {l : List UInt8} (s : ByteArray) (hs : s.data.toList = l) (h : l.all (inRow tenL) = true) : putOkC (digitsC c) s := by
  unfold digitsC
  split
  · exact Nat.le_refl _
  · split
    · intro x hx
      rw [hs] at hx
      exact ten_hex (List.all_eq_true.1 h x hx)
    · show tenB.size ≤ eb10.size
      decide
theorem raw_ok {c : Int} {l : List UInt8} (s : ByteArray) (hs : s.data.toList = l) (h : l.all (inRow hexL) = true) : putOkC (rawC c) s := by
  unfold rawC
  split
  · show lowB.size ≤ highB.size
    decide
  · intro x hx
    rw [hs] at hx
    have := List.all_eq_true.1 h x hx
    unfold inRow at this
    unfold isHex
    simpa using this
theorem letters_ok {c : Int} (s : ByteArray) : putOkC (lettersC c) s := by
  unfold lettersC
  split
  · exact Nat.le_refl _
  · split
    · exact Nat.le_refl _
    · show signsB.size ≤ ebcB.size
      decide
theorem ofB_all {l row : List UInt8} {n : Int} (h : ofB l row n = true) : l.all (inRow row) = true ∧ (l.length : Int) = n := by
  unfold ofB at h
  simpa using h
theorem told_ok (n : Nat) (h : n < 100) : (told n).all (inRow tenL) = true := by
  have : ∀ i : Fin 100, (told i.1).all (inRow tenL) = true := by decide
  exact this ⟨n, h⟩
theorem check_zero {k n c : Int} {l : List UInt8} (h : checkR k n c l = 0) : mayB k n c = true ∧ rightB k n l = true := by
  unfold checkR at h
  split at h
  · split at h
    · exact ⟨by assumption, by assumption⟩
    · cases h
  · cases h

theorem put_any (k n c : Int) (s : ByteArray) (A0 : Option Addr) (c0 : Nat) (l0 : List Int) (w : World) (hs : s.size ≤ 100000000) (hl0 : l0.length ≤ 100000000) (hr0 : Kd.C (Kd.int .u8) w A0 l0.length l0) (hc0 : l0.length ≤ c0) :
    Calls Try.prog 13 #[.slice A0 l0.length c0, .agg #[.int .i64 k, .int .i64 n, .int .i64 c], .string s] w fun e w' => ∃ v0_ : Value, e = .returned (.tuple #[v0_, .int .i64 (putR l0 k n c s).2]) ∧ Kd.R (Kd.int .u8) 5 w' w.heap.size (fun _ => True) v0_ (putR l0 k n c s).1 ∧ Below w.heap.size w w' := by
  by_cases h : checkR k n c s.data.toList = 0
  · have e : putR l0 k n c s = (l0 ++ nums8 (putBytes k c s.data.toList), 0) := by simp [putR, h]
    rw [e]
    obtain ⟨hm, hr⟩ := check_zero h
    have hm' : 1 ≤ k ∧ k ≤ 5 ∧ 1 ≤ n ∧ n ≤ 64 ∧ 1 ≤ c ∧ c ≤ 3 := by simpa [mayB] using hm
    unfold rightB at hr
    by_cases h5 : k = 5
    · subst h5
      rw [if_pos rfl] at hr
      cases hl : s.data.toList with
      | nil => rw [hl] at hr; cases hr
      | cons a r =>
        rw [hl] at hr
        simp only [Bool.and_eq_true] at hr
        obtain ⟨h1, h2⟩ := ofB_all hr.2
        have hsz : s.size = r.length + 1 := by rw [← size_list, hl]; rfl
        rw [← hl]
        exact put_x n c s A0 c0 l0 w (by omega) hl0 hr0 hc0 h (tens_ok _ (by rw [cut_tail, hl]; rfl) h1) (letters_ok _) (by omega)
    · rw [if_neg h5] at hr
      by_cases h1 : k = 1
      · subst h1
        obtain ⟨a, b⟩ := ofB_all hr
        rw [size_list] at b
        exact put_n n c s A0 c0 l0 w (by omega) hl0 hr0 hc0 h (tens_ok s rfl a)
      · rw [if_neg h1] at hr
        by_cases h2 : k = 2
        · subst h2
          rw [if_pos rfl] at hr
          simp only [Bool.and_eq_true, decide_eq_true_eq] at hr
          obtain ⟨a, b⟩ := ofB_all hr.2
          have := hr.1
          rw [size_list] at this
          exact put_ll n c s A0 c0 l0 w (by omega) hl0 hr0 hc0 h (tens_ok s rfl a) (tens_ok _ (by simp) (told_ok s.size (by omega))) (by omega)
        · rw [if_neg h2] at hr
          by_cases h3 : k = 3
          · subst h3
            rw [if_pos rfl] at hr
            obtain ⟨a, b⟩ := ofB_all hr
            rw [size_list] at b
            exact put_an n c s A0 c0 l0 w (by omega) hl0 hr0 hc0 h (letters_ok s)
          · rw [if_neg h3] at hr
            have h4 : k = 4 := by omega
            subst h4
            obtain ⟨a, b⟩ := ofB_all hr
            rw [size_list] at b
            exact put_b n c s A0 c0 l0 w (by omega) hl0 hr0 hc0 h (raw_ok s rfl a)
  · have e : putR l0 k n c s = ([], checkR k n c s.data.toList) := by simp [putR, h]
    rw [e]
    exact put_wrong k n c s A0 c0 l0 w hs h
end Go.Proofs.Ytcgfbdleapjigaa.fieldw
