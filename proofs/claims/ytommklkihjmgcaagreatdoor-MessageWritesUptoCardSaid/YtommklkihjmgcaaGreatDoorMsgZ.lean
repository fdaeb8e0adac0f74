/- Layer 5: errors.Is and errors.As at this layer's errors, as Go's own text walks; told. Layer 5: errors.Is and errors.As at this layer's errors, walked; told. Layer 5: told: an error's number; Check of any message. Conditions: as each theorem says. -/
import Derived.Test.YtommklkihjmgcaaGreatDoorMsgY
import Derived.WalkKit
import Derived.LaidEql
import Derived.Stop.Asserts
import Derived.RowKitTokens
namespace Go.Proofs.YtommklkihjmgcaaGreatDoor.msgw
open Go.RowKit Go.Extern.Stop Go.Stop Go.Extern
open Go.Proofs.YtommklkihjmgcaaGreatDoor.msgp
open Go.Proofs.YtommklkihjmgcaaGreatDoor.buf
theorem ErrT.below {w w' : World} (h : ErrT w) (hb : Below w.heap.size w w') : ErrT w' := hb.keptCell h
/-! Closed facts on the model's entries. -/
theorem e_valueOfP (t : Addr) (w : World) : (ReflectliteValue.unpack (.iface 97 (.pointer (some t)))).run Tryz.prog w
    = .ok (.agg #[.pointer (some ⟨8, 97, none⟩), .pointer (some ⟨w.heap.size, 0, none⟩), .int .u64 150]) (w.alloc (.cells #[.pointer (some t)] 97)) := by kernel_rfl
theorem e_valueOfW (n : Int) (w : World) : (ReflectliteValue.unpack (.iface 87 (.int .i64 n))).run Tryz.prog w
    = .ok (.agg #[.pointer (some ⟨8, 87, none⟩), .pointer (some ⟨w.heap.size, 0, none⟩), .int .u64 130]) (w.alloc (.cells #[.int .i64 n] 87)) := by kernel_rfl
theorem e_typeP (a : Addr) (w : World) : (ReflectliteValue.methodAny (ReflectliteValue.valueError "reflectlite.Value.Type" 0) (fun t _ _ _ => ReflectliteType.toType t) #[.agg #[.pointer (some ⟨8, 97, none⟩), .pointer (some a), .int .u64 150]]).run Tryz.prog w
    = .ok (.iface 177 (.agg #[.pointer (some ⟨8, 97, none⟩)])) w := by kernel_rfl
theorem e_mKind (h : Value) (w : World) : (Go.method 335 177 (.agg #[h]) "Kind").run Tryz.prog w = .ok (155, h) w := by kernel_rfl
theorem e_mElem (h : Value) (w : World) : (Go.method 335 177 (.agg #[h]) "Elem").run Tryz.prog w = .ok (168, .agg #[h]) w := by kernel_rfl
theorem e_mImpl (h : Value) (w : World) : (Go.method 335 177 (.agg #[h]) "Implements").run Tryz.prog w = .ok (169, .agg #[h]) w := by kernel_rfl
theorem e_mAss (h : Value) (w : World) : (Go.method 335 177 (.agg #[h]) "AssignableTo").run Tryz.prog w = .ok (166, .agg #[h]) w := by kernel_rfl
theorem e_mComp (v : Value) (w : World) : (Go.method 335 177 v "Comparable").run Tryz.prog w = .ok (167, v) w := by kernel_rfl
theorem e_mUnwrap (v : Value) (w : World) : (Go.method 335 86 v "Unwrap").run Tryz.prog w = .ok (159, v) w := by kernel_rfl
theorem e_kindP (w : World) : ((ReflectliteType.abiMethod fun t => (fun a : Nat => Value.int IntKind.u8 (a : Int)) <$> Rtype.kind t) #[.pointer (some ⟨8, 97, none⟩)]).run Tryz.prog w = .ok (.int .u8 22) w := by kernel_rfl
theorem e_kindW (w : World) : ((ReflectliteType.abiMethod fun t => (fun a : Nat => Value.int IntKind.u8 (a : Int)) <$> Rtype.kind t) #[.pointer (some ⟨8, 87, none⟩)]).run Tryz.prog w = .ok (.int .u8 2) w := by kernel_rfl
theorem e_rlm (z : Sem Value) (f : TypeId → Addr → Nat → Nat → Sem Value) (v : Value) :
    ReflectliteValue.method z f #[v] = (do match ← ReflectliteValue.parts v with | none => z | some (t, a, fl) => f t a fl (fl % 32)) := rfl
theorem e_partsP (a : Addr) (w : World) : (ReflectliteValue.parts (.agg #[.pointer (some ⟨8, 97, none⟩), .pointer (some a), .int .u64 150])).run Tryz.prog w = .ok (some (97, a, 150)) w := by kernel_rfl
theorem e_isNil (a p : Addr) (W : World) (ha : W.cell? a = some (.pointer (some p))) :
    (ReflectliteValue.method (ReflectliteValue.valueError "reflectlite.Value.IsNil" 0) ReflectliteValue.isNil #[.agg #[.pointer (some ⟨8, 97, none⟩), .pointer (some a), .int .u64 150]]).run Tryz.prog W = .ok (.bool false) W := by
  rw [e_rlm]
  simp only [Sem.run_bind, e_partsP, Result.andThen]
  simp [ReflectliteValue.isNil, loadVar, isAgg, underlying, Tryz.underlying97, ha, Result.andThen]
theorem e_elemT (w : World) : (ReflectliteType.method ReflectliteType.elem #[.agg #[.pointer (some ⟨8, 97, none⟩)]]).run Tryz.prog w = .ok (.iface 177 (.agg #[.pointer (some ⟨8, 87, none⟩)])) w := by kernel_rfl
theorem e_impl (w : World) : (ReflectliteType.relation "Implements" ReflectliteType.implements_ #[.agg #[.pointer (some ⟨8, 87, none⟩)], .iface 177 (.agg #[.pointer (some ⟨8, 60, none⟩)])]).run Tryz.prog w = .ok (.bool true) w := by kernel_rfl
theorem e_typeOfW (v : Value) (w : World) : (ReflectliteType.typeOf #[.iface 87 v]).run Tryz.prog w = .ok (.iface 177 (.agg #[.pointer (some ⟨8, 87, none⟩)])) w := by kernel_rfl
theorem e_typeOfF (v : Value) (w : World) : (ReflectliteType.typeOf #[.iface 86 v]).run Tryz.prog w = .ok (.iface 177 (.agg #[.pointer (some ⟨8, 86, none⟩)])) w := by kernel_rfl
theorem e_assW (w : World) : (ReflectliteType.relation "AssignableTo" ReflectliteType.assignableTo #[.agg #[.pointer (some ⟨8, 87, none⟩)], .iface 177 (.agg #[.pointer (some ⟨8, 87, none⟩)])]).run Tryz.prog w = .ok (.bool true) w := by kernel_rfl
theorem e_assF (w : World) : (ReflectliteType.relation "AssignableTo" ReflectliteType.assignableTo #[.agg #[.pointer (some ⟨8, 86, none⟩)], .iface 177 (.agg #[.pointer (some ⟨8, 87, none⟩)])]).run Tryz.prog w = .ok (.bool false) w := by kernel_rfl
theorem e_comp (w : World) : (callFunc 167 #[.agg #[.pointer (some ⟨8, 87, none⟩)]]).run Tryz.prog w = .ok (.value (.bool true)) w := by kernel_rfl
theorem e_elemOf (w : World) : (Rtype.elem? 97).run Tryz.prog w = .ok (some 87) w := by kernel_rfl
theorem e_mkW (p : Addr) (w : World) : (ReflectliteValue.mk 87 p ReflectliteValue.flagAddr).run Tryz.prog w = .ok (.agg #[.pointer (some ⟨8, 87, none⟩), .pointer (some p), .int .u64 386]) w := by kernel_rfl
theorem e_elemV (a p : Addr) (W : World) (ha : W.cell? a = some (.pointer (some p))) :
    (ReflectliteValue.method (ReflectliteValue.valueError "reflectlite.Value.Elem" 0) ReflectliteValue.elem #[.agg #[.pointer (some ⟨8, 97, none⟩), .pointer (some a), .int .u64 150]]).run Tryz.prog W
      = .ok (.agg #[.pointer (some ⟨8, 87, none⟩), .pointer (some p), .int .u64 386]) W := by
  rw [e_rlm]
  simp only [Sem.run_bind, e_partsP, Result.andThen]
  simp [ReflectliteValue.elem, loadVar, isAgg, underlying, Tryz.underlying97, ha, Result.andThen, e_elemOf, e_mkW]
theorem e_rls (v x : Value) : ReflectliteValue.set #[v, x] = (do
    let (some (dst, a, fl), some (src, b, _)) := (← ReflectliteValue.parts v, ← ReflectliteValue.parts x)
      | unsupported (.noEntry "extern/(internal/reflectlite.Value).Set.zeroValue")
    if fl / ReflectliteValue.flagAddr % 2 == 0 then unsupported (.noEntry "extern/(internal/reflectlite.Value).Set.unaddressable")
    let val ← loadVar src b
    if ← Rtype.directlyAssignable dst src then storeVar dst a val
    else if ← Rtype.implements dst src then
      if (← Rtype.kind src) == 20 then
        match val with
        | .nilIface => unsupported (.noEntry "extern/reflectlite: a nil value of one interface type handed on as a value of another")
        | _ => storeVar dst a val
      else storeVar dst a (.iface src val)
    else panicString ("reflectlite.Set: value of type " ++ (← Rtype.spelt src) ++ " is not assignable to type " ++ (← Rtype.spelt dst))
    pure (.tuple #[])) := rfl
theorem e_partsWa (a : Addr) (w : World) : (ReflectliteValue.parts (.agg #[.pointer (some ⟨8, 87, none⟩), .pointer (some a), .int .u64 386])).run Tryz.prog w = .ok (some (87, a, 386)) w := by kernel_rfl
theorem e_partsW (a : Addr) (w : World) : (ReflectliteValue.parts (.agg #[.pointer (some ⟨8, 87, none⟩), .pointer (some a), .int .u64 130])).run Tryz.prog w = .ok (some (87, a, 130)) w := by kernel_rfl
theorem e_direct (w : World) : (Rtype.directlyAssignable 87 87).run Tryz.prog w = .ok true w := by kernel_rfl
theorem e_set (ta b : Addr) (n : Int) (old : Value) (W : World) (hb : W.cell? b = some (.int .i64 n)) (ht : W.cell? ta = some old) (hf : W.frozen? ta = false) :
    (ReflectliteValue.set #[.agg #[.pointer (some ⟨8, 87, none⟩), .pointer (some ta), .int .u64 386], .agg #[.pointer (some ⟨8, 87, none⟩), .pointer (some b), .int .u64 130]]).run Tryz.prog W
      = .ok (.tuple #[]) (W.setCell ta (.int .i64 n)) := by
  rw [e_rls]
  simp only [Sem.run_bind, e_partsWa, e_partsW, Result.andThen]
  simp [ReflectliteValue.flagAddr, loadVar, isAgg, underlying, Tryz.underlying87, hb, Result.andThen, e_direct, storeVar, Value.cells, storeCells, Addr.add]
  rw [run_store Tryz.prog W ta _ _ (by rfl)]
  simp [ht, hf]
theorem e_noIsW (v : Value) (xT : TypeId) (w : World) : (Instr.typeAssert (.iface 87 v) xT 179 true).run Tryz.prog w = .ok (.tuple #[.nilIface, .bool false]) w := run_typeAssert_lacksB Tryz.underlying179 (by kernel_rfl) (by kernel_rfl) v xT w
theorem e_noUnwrapW (v : Value) (xT : TypeId) (w : World) : (Instr.typeAssert (.iface 87 v) xT 182 true).run Tryz.prog w = .ok (.tuple #[.nilIface, .bool false]) w := run_typeAssert_lacksB Tryz.underlying182 (by kernel_rfl) (by kernel_rfl) v xT w
theorem e_noUnwrapsW (v : Value) (xT : TypeId) (w : World) : (Instr.typeAssert (.iface 87 v) xT 184 true).run Tryz.prog w = .ok (.tuple #[.nilIface, .bool false]) w := run_typeAssert_lacksB Tryz.underlying184 (by kernel_rfl) (by kernel_rfl) v xT w
theorem e_noIsF (v : Value) (xT : TypeId) (w : World) : (Instr.typeAssert (.iface 86 v) xT 179 true).run Tryz.prog w = .ok (.tuple #[.nilIface, .bool false]) w := run_typeAssert_lacksB Tryz.underlying179 (by kernel_rfl) (by kernel_rfl) v xT w
theorem e_noAsF (v : Value) (xT : TypeId) (w : World) : (Instr.typeAssert (.iface 86 v) xT 189 true).run Tryz.prog w = .ok (.tuple #[.nilIface, .bool false]) w := run_typeAssert_lacksB Tryz.underlying189 (by kernel_rfl) (by kernel_rfl) v xT w
theorem e_hasUnwrapF (v : Value) (xT : TypeId) (w : World) : (Instr.typeAssert (.iface 86 v) xT 182 true).run Tryz.prog w = .ok (.tuple #[.iface 86 v, .bool true]) w := run_typeAssert_hasB Tryz.underlying182 (by kernel_rfl) v xT w
theorem e_compW : (Tryz.prog.info? 87).map (·.comparable) = some true := by kernel_rfl
theorem e_eqW (n m : Int) (w : World) : (binOp .eql 60 (.iface 87 (.int .i64 n)) (.iface 87 (.int .i64 m))).run Tryz.prog w = .ok (.bool (decide (n = m))) w := by
  obtain ⟨i, hi, hcmp⟩ := Option.map_eq_some_iff.1 e_compW
  have h : ∀ d : Nat, (Op.equalIn (d + 2) 60 (.iface 87 (.int .i64 n)) (.iface 87 (.int .i64 m))).run Tryz.prog w = .ok (decide (n = m)) w := fun d => by
    simp [Op.equalIn, run_underlying Tryz.underlying60, run_underlying Tryz.underlying87, typeInfo, hi, hcmp]
    rfl
  simp only [binOp]
  simp [Op.equal, Op.maxDepth, h 9998]
theorem e_eqFW (a : Addr) (m : Int) (w : World) : (binOp .eql 60 (.iface 86 (.pointer (some a))) (.iface 87 (.int .i64 m))).run Tryz.prog w = .ok (.bool false) w :=
  run_eql_iface_types _ _ _ _ Tryz.underlying60 (by decide) w
end Go.Proofs.YtommklkihjmgcaaGreatDoor.msgw
namespace Go.Proofs.YtommklkihjmgcaaGreatDoor.msgw
open Go.RowKit Go.Extern.Stop Go.Stop Go.Extern
open Go.Proofs.YtommklkihjmgcaaGreatDoor.msgp
open Go.Proofs.YtommklkihjmgcaaGreatDoor.buf
theorem is_wrong (n : Int) (w : World) : Calls Tryz.prog 55 #[.iface 87 (.int .i64 n), .iface 87 (.int .i64 43)] w fun e w' => e = .returned (.bool (decide (n = 43))) ∧ w' = w := by
  have h57 := @run_callFunc_extern Tryz.prog 82 _ Extern.ReflectliteType.typeOf Tryz.func82 (by kernel_rfl) (by kernel_rfl) (by kernel_rfl) (by kernel_rfl)
  have tT := e_typeOfW
  have cT := e_comp
  have mR := e_mComp
  have nE := e_noIsW
  have uE := e_noUnwrapW
  have vE := e_noUnwrapsW
  by_cases hn : n = 43
  · subst hn
    have heq := e_eqW 43 43
    go_enter Tryz.func55, Tryz.ntmps55
    go_wp2
    refine wp_loop_rounds 1 ?_
    rw [rounds_succ]
    go_wp2
    go_ret
    exact ⟨rfl, rfl⟩
  · have heq : ∀ w : World, (binOp .eql 60 (.iface 87 (.int .i64 n)) (.iface 87 (.int .i64 43))).run Tryz.prog w = .ok (.bool false) w := fun w => by rw [e_eqW, decide_eq_false hn]
    rw [decide_eq_false hn]
    go_enter Tryz.func55, Tryz.ntmps55
    go_wp2
    refine wp_loop_rounds 1 ?_
    rw [rounds_succ]
    go_wp2
    go_ret
    exact ⟨rfl, rfl⟩
theorem is_field (b : Nat) (n : Int) (w : World) (h1 : w.cell? ⟨b, 1, none⟩ = some (.iface 87 (.int .i64 n))) : Calls Tryz.prog 55 #[.iface 86 (.pointer (some ⟨b, 0, none⟩)), .iface 87 (.int .i64 43)] w fun e w' => e = .returned (.bool (decide (n = 43))) ∧ w' = w := by
  have h57 := @run_callFunc_extern Tryz.prog 82 _ Extern.ReflectliteType.typeOf Tryz.func82 (by kernel_rfl) (by kernel_rfl) (by kernel_rfl) (by kernel_rfl)
  have tT := e_typeOfW
  have cT := e_comp
  have mR := e_mComp
  have nE := e_noIsW
  have uE := e_noUnwrapW
  have vE := e_noUnwrapsW
  have nF := e_noIsF
  have uF := e_hasUnwrapF
  have mU := e_mUnwrap
  have qF := e_eqFW ⟨b, 0, none⟩ 43
  by_cases hn : n = 43
  · subst hn
    have heq := e_eqW 43 43
    go_enter Tryz.func55, Tryz.ntmps55
    go_wp2
    refine wp_loop_rounds 2 ?_
    rw [rounds_succ]
    go_wp2
    rw [rounds_succ]
    go_wp2
    go_ret
    exact ⟨rfl, rfl⟩
  · have heq : ∀ w : World, (binOp .eql 60 (.iface 87 (.int .i64 n)) (.iface 87 (.int .i64 43))).run Tryz.prog w = .ok (.bool false) w := fun w => by rw [e_eqW, decide_eq_false hn]
    rw [decide_eq_false hn]
    go_enter Tryz.func55, Tryz.ntmps55
    go_wp2
    refine wp_loop_rounds 2 ?_
    rw [rounds_succ]
    go_wp2
    rw [rounds_succ]
    go_wp2
    go_ret
    exact ⟨rfl, rfl⟩
set_option maxHeartbeats 4000000 in
theorem as_wrong (n : Int) (t : Nat) (old : Value) (w : World) (hg : ErrT w) (ht0 : w.cell? ⟨t, 0, none⟩ = some old) (hf0 : w.frozen? ⟨t, 0, none⟩ = false) :
    Calls Tryz.prog 56 #[.iface 87 (.int .i64 n), .iface 97 (.pointer (some ⟨t, 0, none⟩))] w fun e w' => e = .returned (.bool true) ∧ w' = ((((w.alloc (.cells #[.pointer (some ⟨t, 0, none⟩)] 97)).alloc (.cells #[.pointer (some ⟨8, 97, none⟩), .pointer (some ⟨w.heap.size, 0, none⟩), .int .u64 150] 147)).alloc (.cells #[.pointer (some ⟨8, 97, none⟩), .pointer (some ⟨w.heap.size, 0, none⟩), .int .u64 150] 147)).alloc (.cells #[.int .i64 n] 87)).setCell ⟨t, 0, none⟩ (.int .i64 n) := by
  have h59 := @run_callFunc_extern Tryz.prog 84 _ (fun args => ReflectliteValue.unpack (args.getD 0 (.tuple #[]))) Tryz.func84 (by kernel_rfl) (by kernel_rfl) (by kernel_rfl) (by kernel_rfl)
  have h60 := @run_callFunc_extern Tryz.prog 85 _ (ReflectliteValue.methodAny (ReflectliteValue.valueError "reflectlite.Value.Type" 0) (fun t _ _ _ => ReflectliteType.toType t)) Tryz.func85 (by kernel_rfl) (by kernel_rfl) (by kernel_rfl) (by kernel_rfl)
  have h61 := @run_callFunc_extern Tryz.prog 86 _ (ReflectliteValue.method (ReflectliteValue.valueError "reflectlite.Value.IsNil" 0) ReflectliteValue.isNil) Tryz.func86 (by kernel_rfl) (by kernel_rfl) (by kernel_rfl) (by kernel_rfl)
  have h85 := @run_callFunc_extern Tryz.prog 155 _ (ReflectliteType.abiMethod fun t => do pure (.int .u8 (← Rtype.kind t))) Tryz.func155 (by kernel_rfl) (by kernel_rfl) (by kernel_rfl) (by kernel_rfl)
  have h99 := @run_callFunc_extern Tryz.prog 168 _ (ReflectliteType.method ReflectliteType.elem) Tryz.func168 (by kernel_rfl) (by kernel_rfl) (by kernel_rfl) (by kernel_rfl)
  have h100 := @run_callFunc_extern Tryz.prog 169 _ (ReflectliteType.relation "Implements" ReflectliteType.implements_) Tryz.func169 (by kernel_rfl) (by kernel_rfl) (by kernel_rfl) (by kernel_rfl)
  have h57 := @run_callFunc_extern Tryz.prog 82 _ Extern.ReflectliteType.typeOf Tryz.func82 (by kernel_rfl) (by kernel_rfl) (by kernel_rfl) (by kernel_rfl)
  have h97 := @run_callFunc_extern Tryz.prog 166 _ (ReflectliteType.relation "AssignableTo" ReflectliteType.assignableTo) Tryz.func166 (by kernel_rfl) (by kernel_rfl) (by kernel_rfl) (by kernel_rfl)
  have h68 := @run_callFunc_extern Tryz.prog 115 _ (ReflectliteValue.method (ReflectliteValue.valueError "reflectlite.Value.Elem" 0) ReflectliteValue.elem) Tryz.func115 (by kernel_rfl) (by kernel_rfl) (by kernel_rfl) (by kernel_rfl)
  have h69 := @run_callFunc_extern Tryz.prog 116 _ ReflectliteValue.set Tryz.func116 (by kernel_rfl) (by kernel_rfl) (by kernel_rfl) (by kernel_rfl)
  have f1 := e_valueOfP
  have f2 := e_valueOfW
  have f3 := e_typeP
  have f4 := e_mKind
  have f5 := e_mElem
  have f6 := e_mImpl
  have f7 := e_mAss
  have f8 := e_kindP
  have f9 := e_kindW
  have f10 := e_elemT
  have f11 := e_impl
  have f12 := e_typeOfW
  have f13 := e_assW
  have n8 := e_isNil ⟨w.heap.size, 0, none⟩ ⟨t, 0, none⟩ ((w.alloc (.cells #[.pointer (some ⟨t, 0, none⟩)] 97)).alloc (.cells #[.pointer (some ⟨8, 97, none⟩), .pointer (some ⟨w.heap.size, 0, none⟩), .int .u64 150] 147)) (by simp)
  have hlt : 3 < w.heap.size := World.block_lt_of_cell? w ⟨3, 0, none⟩ hg
  have htl : t < w.heap.size := World.block_lt_of_cell? w ⟨t, 0, none⟩ ht0
  have hg2 : ((w.alloc (.cells #[.pointer (some ⟨t, 0, none⟩)] 97)).alloc (.cells #[.pointer (some ⟨8, 97, none⟩), .pointer (some ⟨w.heap.size, 0, none⟩), .int .u64 150] 147)).cell? ⟨3, 0, none⟩ = some (.iface 177 (.agg #[.pointer (some ⟨8, 60, none⟩)])) := by
    rw [World.cell?_alloc_lt _ _ ⟨3, 0, none⟩ (by simp; omega), World.cell?_alloc_lt _ _ ⟨3, 0, none⟩ hlt]; exact hg
  have el := e_elemV ⟨w.heap.size, 0, none⟩ ⟨t, 0, none⟩ (((w.alloc (.cells #[.pointer (some ⟨t, 0, none⟩)] 97)).alloc (.cells #[.pointer (some ⟨8, 97, none⟩), .pointer (some ⟨w.heap.size, 0, none⟩), .int .u64 150] 147)).alloc (.cells #[.pointer (some ⟨8, 97, none⟩), .pointer (some ⟨w.heap.size, 0, none⟩), .int .u64 150] 147)) (by rw [World.cell?_alloc_lt _ _ ⟨w.heap.size, 0, none⟩ (by simp; omega)]; simp)
  have st := e_set ⟨t, 0, none⟩ ⟨w.heap.size + 1 + 1 + 1, 0, none⟩ n old ((((w.alloc (.cells #[.pointer (some ⟨t, 0, none⟩)] 97)).alloc (.cells #[.pointer (some ⟨8, 97, none⟩), .pointer (some ⟨w.heap.size, 0, none⟩), .int .u64 150] 147)).alloc (.cells #[.pointer (some ⟨8, 97, none⟩), .pointer (some ⟨w.heap.size, 0, none⟩), .int .u64 150] 147)).alloc (.cells #[.int .i64 n] 87))
    (by rw [World.cell?_alloc_at _ _ _ _ (by simp)]; rfl)
    (by rw [World.cell?_alloc_lt _ _ ⟨t, 0, none⟩ (by simp; omega), World.cell?_alloc_lt _ _ ⟨t, 0, none⟩ (by simp; omega), World.cell?_alloc_lt _ _ ⟨t, 0, none⟩ (by simp; omega), World.cell?_alloc_lt _ _ ⟨t, 0, none⟩ htl]; exact ht0)
    (by rw [World.frozen?_alloc_old _ _ ⟨t, 0, none⟩ (by simp; omega), World.frozen?_alloc_old _ _ ⟨t, 0, none⟩ (by simp; omega), World.frozen?_alloc_old _ _ ⟨t, 0, none⟩ (by simp; omega), World.frozen?_alloc_old _ _ ⟨t, 0, none⟩ (Nat.ne_of_lt htl)]; exact hf0)
  go_enter Tryz.func56, Tryz.ntmps56
  go_wp2
  refine wp_loop_rounds 1 ?_
  rw [rounds_succ]
  go_wp2
  go_ret
  exact ⟨rfl, rfl⟩
set_option maxHeartbeats 4000000 in
theorem as_field (b : Nat) (n : Int) (t : Nat) (old : Value) (w : World) (h1 : w.cell? ⟨b, 1, none⟩ = some (.iface 87 (.int .i64 n))) (hg : ErrT w) (ht0 : w.cell? ⟨t, 0, none⟩ = some old) (hf0 : w.frozen? ⟨t, 0, none⟩ = false) :
    Calls Tryz.prog 56 #[.iface 86 (.pointer (some ⟨b, 0, none⟩)), .iface 97 (.pointer (some ⟨t, 0, none⟩))] w fun e w' => e = .returned (.bool true) ∧ w' = ((((w.alloc (.cells #[.pointer (some ⟨t, 0, none⟩)] 97)).alloc (.cells #[.pointer (some ⟨8, 97, none⟩), .pointer (some ⟨w.heap.size, 0, none⟩), .int .u64 150] 147)).alloc (.cells #[.pointer (some ⟨8, 97, none⟩), .pointer (some ⟨w.heap.size, 0, none⟩), .int .u64 150] 147)).alloc (.cells #[.int .i64 n] 87)).setCell ⟨t, 0, none⟩ (.int .i64 n) := by
  have h59 := @run_callFunc_extern Tryz.prog 84 _ (fun args => ReflectliteValue.unpack (args.getD 0 (.tuple #[]))) Tryz.func84 (by kernel_rfl) (by kernel_rfl) (by kernel_rfl) (by kernel_rfl)
  have h60 := @run_callFunc_extern Tryz.prog 85 _ (ReflectliteValue.methodAny (ReflectliteValue.valueError "reflectlite.Value.Type" 0) (fun t _ _ _ => ReflectliteType.toType t)) Tryz.func85 (by kernel_rfl) (by kernel_rfl) (by kernel_rfl) (by kernel_rfl)
  have h61 := @run_callFunc_extern Tryz.prog 86 _ (ReflectliteValue.method (ReflectliteValue.valueError "reflectlite.Value.IsNil" 0) ReflectliteValue.isNil) Tryz.func86 (by kernel_rfl) (by kernel_rfl) (by kernel_rfl) (by kernel_rfl)
  have h85 := @run_callFunc_extern Tryz.prog 155 _ (ReflectliteType.abiMethod fun t => do pure (.int .u8 (← Rtype.kind t))) Tryz.func155 (by kernel_rfl) (by kernel_rfl) (by kernel_rfl) (by kernel_rfl)
  have h99 := @run_callFunc_extern Tryz.prog 168 _ (ReflectliteType.method ReflectliteType.elem) Tryz.func168 (by kernel_rfl) (by kernel_rfl) (by kernel_rfl) (by kernel_rfl)
  have h100 := @run_callFunc_extern Tryz.prog 169 _ (ReflectliteType.relation "Implements" ReflectliteType.implements_) Tryz.func169 (by kernel_rfl) (by kernel_rfl) (by kernel_rfl) (by kernel_rfl)
  have h57 := @run_callFunc_extern Tryz.prog 82 _ Extern.ReflectliteType.typeOf Tryz.func82 (by kernel_rfl) (by kernel_rfl) (by kernel_rfl) (by kernel_rfl)
  have h97 := @run_callFunc_extern Tryz.prog 166 _ (ReflectliteType.relation "AssignableTo" ReflectliteType.assignableTo) Tryz.func166 (by kernel_rfl) (by kernel_rfl) (by kernel_rfl) (by kernel_rfl)
  have h68 := @run_callFunc_extern Tryz.prog 115 _ (ReflectliteValue.method (ReflectliteValue.valueError "reflectlite.Value.Elem" 0) ReflectliteValue.elem) Tryz.func115 (by kernel_rfl) (by kernel_rfl) (by kernel_rfl) (by kernel_rfl)
  have h69 := @run_callFunc_extern Tryz.prog 116 _ ReflectliteValue.set Tryz.func116 (by kernel_rfl) (by kernel_rfl) (by kernel_rfl) (by kernel_rfl)
  have f1 := e_valueOfP
  have f2 := e_valueOfW
  have f3 := e_typeP
  have f4 := e_mKind
  have f5 := e_mElem
  have f6 := e_mImpl
  have f7 := e_mAss
  have f8 := e_kindP
  have f9 := e_kindW
  have f10 := e_elemT
  have f11 := e_impl
  have f12 := e_typeOfW
  have f13 := e_assW
  have f14 := e_typeOfF
  have f15 := e_assF
  have f16 := e_noAsF
  have f17 := e_hasUnwrapF
  have f18 := e_mUnwrap
  have hbl : b < w.heap.size := World.block_lt_of_cell? w ⟨b, 1, none⟩ h1
  have hu : (((w.alloc (.cells #[.pointer (some ⟨t, 0, none⟩)] 97)).alloc (.cells #[.pointer (some ⟨8, 97, none⟩), .pointer (some ⟨w.heap.size, 0, none⟩), .int .u64 150] 147)).alloc (.cells #[.pointer (some ⟨8, 97, none⟩), .pointer (some ⟨w.heap.size, 0, none⟩), .int .u64 150] 147)).cell? ⟨b, 1, none⟩ = some (.iface 87 (.int .i64 n)) := by
    rw [World.cell?_alloc_lt _ _ ⟨b, 1, none⟩ (by simp; omega), World.cell?_alloc_lt _ _ ⟨b, 1, none⟩ (by simp; omega), World.cell?_alloc_lt _ _ ⟨b, 1, none⟩ hbl]; exact h1
  have n8 := e_isNil ⟨w.heap.size, 0, none⟩ ⟨t, 0, none⟩ ((w.alloc (.cells #[.pointer (some ⟨t, 0, none⟩)] 97)).alloc (.cells #[.pointer (some ⟨8, 97, none⟩), .pointer (some ⟨w.heap.size, 0, none⟩), .int .u64 150] 147)) (by simp)
  have hlt : 3 < w.heap.size := World.block_lt_of_cell? w ⟨3, 0, none⟩ hg
  have htl : t < w.heap.size := World.block_lt_of_cell? w ⟨t, 0, none⟩ ht0
  have hg2 : ((w.alloc (.cells #[.pointer (some ⟨t, 0, none⟩)] 97)).alloc (.cells #[.pointer (some ⟨8, 97, none⟩), .pointer (some ⟨w.heap.size, 0, none⟩), .int .u64 150] 147)).cell? ⟨3, 0, none⟩ = some (.iface 177 (.agg #[.pointer (some ⟨8, 60, none⟩)])) := by
    rw [World.cell?_alloc_lt _ _ ⟨3, 0, none⟩ (by simp; omega), World.cell?_alloc_lt _ _ ⟨3, 0, none⟩ hlt]; exact hg
  have el := e_elemV ⟨w.heap.size, 0, none⟩ ⟨t, 0, none⟩ (((w.alloc (.cells #[.pointer (some ⟨t, 0, none⟩)] 97)).alloc (.cells #[.pointer (some ⟨8, 97, none⟩), .pointer (some ⟨w.heap.size, 0, none⟩), .int .u64 150] 147)).alloc (.cells #[.pointer (some ⟨8, 97, none⟩), .pointer (some ⟨w.heap.size, 0, none⟩), .int .u64 150] 147)) (by rw [World.cell?_alloc_lt _ _ ⟨w.heap.size, 0, none⟩ (by simp; omega)]; simp)
  have st := e_set ⟨t, 0, none⟩ ⟨w.heap.size + 1 + 1 + 1, 0, none⟩ n old ((((w.alloc (.cells #[.pointer (some ⟨t, 0, none⟩)] 97)).alloc (.cells #[.pointer (some ⟨8, 97, none⟩), .pointer (some ⟨w.heap.size, 0, none⟩), .int .u64 150] 147)).alloc (.cells #[.pointer (some ⟨8, 97, none⟩), .pointer (some ⟨w.heap.size, 0, none⟩), .int .u64 150] 147)).alloc (.cells #[.int .i64 n] 87))
    (by rw [World.cell?_alloc_at _ _ _ _ (by simp)]; rfl)
    (by rw [World.cell?_alloc_lt _ _ ⟨t, 0, none⟩ (by simp; omega), World.cell?_alloc_lt _ _ ⟨t, 0, none⟩ (by simp; omega), World.cell?_alloc_lt _ _ ⟨t, 0, none⟩ (by simp; omega), World.cell?_alloc_lt _ _ ⟨t, 0, none⟩ htl]; exact ht0)
    (by rw [World.frozen?_alloc_old _ _ ⟨t, 0, none⟩ (by simp; omega), World.frozen?_alloc_old _ _ ⟨t, 0, none⟩ (by simp; omega), World.frozen?_alloc_old _ _ ⟨t, 0, none⟩ (by simp; omega), World.frozen?_alloc_old _ _ ⟨t, 0, none⟩ (Nat.ne_of_lt htl)]; exact hf0)
  go_enter Tryz.func56, Tryz.ntmps56
  go_wp2
  refine wp_loop_rounds 2 ?_
  rw [rounds_succ]
  go_wp2
  rw [rounds_succ]
  go_wp2
  go_ret
  exact ⟨rfl, rfl⟩
end Go.Proofs.YtommklkihjmgcaaGreatDoor.msgw
namespace Go.Proofs.YtommklkihjmgcaaGreatDoor.msgw
open Go.RowKit
open Go.Proofs.YtommklkihjmgcaaGreatDoor.msgp
open Go.Proofs.YtommklkihjmgcaaGreatDoor.buf
theorem as_after (n : Int) (t : Nat) (w : World) (old : Value) (h : w.cell? ⟨t, 0, none⟩ = some old) : (((((w.alloc (.cells #[.pointer (some ⟨t, 0, none⟩)] 97)).alloc (.cells #[.pointer (some ⟨8, 97, none⟩), .pointer (some ⟨w.heap.size, 0, none⟩), .int .u64 150] 147)).alloc (.cells #[.pointer (some ⟨8, 97, none⟩), .pointer (some ⟨w.heap.size, 0, none⟩), .int .u64 150] 147)).alloc (.cells #[.int .i64 n] 87)).setCell ⟨t, 0, none⟩ (.int .i64 n)).cell? ⟨t, 0, none⟩ = some (.int .i64 n) ∧ Turn [t] w (((((w.alloc (.cells #[.pointer (some ⟨t, 0, none⟩)] 97)).alloc (.cells #[.pointer (some ⟨8, 97, none⟩), .pointer (some ⟨w.heap.size, 0, none⟩), .int .u64 150] 147)).alloc (.cells #[.pointer (some ⟨8, 97, none⟩), .pointer (some ⟨w.heap.size, 0, none⟩), .int .u64 150] 147)).alloc (.cells #[.int .i64 n] 87)).setCell ⟨t, 0, none⟩ (.int .i64 n)) := by
  have ht : Turn [t] w ((((w.alloc (.cells #[.pointer (some ⟨t, 0, none⟩)] 97)).alloc (.cells #[.pointer (some ⟨8, 97, none⟩), .pointer (some ⟨w.heap.size, 0, none⟩), .int .u64 150] 147)).alloc (.cells #[.pointer (some ⟨8, 97, none⟩), .pointer (some ⟨w.heap.size, 0, none⟩), .int .u64 150] 147)).alloc (.cells #[.int .i64 n] 87)) := ((((Turn.refl [t] w).alloc _).alloc _).alloc _).alloc _
  have b : Below w.heap.size w ((((w.alloc (.cells #[.pointer (some ⟨t, 0, none⟩)] 97)).alloc (.cells #[.pointer (some ⟨8, 97, none⟩), .pointer (some ⟨w.heap.size, 0, none⟩), .int .u64 150] 147)).alloc (.cells #[.pointer (some ⟨8, 97, none⟩), .pointer (some ⟨w.heap.size, 0, none⟩), .int .u64 150] 147)).alloc (.cells #[.int .i64 n] 87)) := ((((Below.refl _ _).alloc (Nat.le_refl _) _).alloc (by simp) _).alloc (by simp; omega) _).alloc (by simp; omega) _
  exact ⟨World.cell?_setCell_same _ _ _ (b.keptCell h), ht.set (.inl (by simp)) _ _⟩
theorem as_wrong2 (n : Int) (t : Nat) (old : Value) (w : World) (hg : ErrT w) (ht0 : w.cell? ⟨t, 0, none⟩ = some old) (hf0 : w.frozen? ⟨t, 0, none⟩ = false) :
    Calls Tryz.prog 56 #[.iface 87 (.int .i64 n), .iface 97 (.pointer (some ⟨t, 0, none⟩))] w fun e w' => e = .returned (.bool true) ∧ w'.cell? ⟨t, 0, none⟩ = some (.int .i64 n) ∧ Turn [t] w w' :=
  (as_wrong n t old w hg ht0 hf0).mono fun e w' h => by
    obtain ⟨rfl, rfl⟩ := h
    exact ⟨rfl, as_after n t w old ht0⟩
theorem as_field2 (b : Nat) (n : Int) (t : Nat) (old : Value) (w : World) (h1 : w.cell? ⟨b, 1, none⟩ = some (.iface 87 (.int .i64 n))) (hg : ErrT w) (ht0 : w.cell? ⟨t, 0, none⟩ = some old) (hf0 : w.frozen? ⟨t, 0, none⟩ = false) :
    Calls Tryz.prog 56 #[.iface 86 (.pointer (some ⟨b, 0, none⟩)), .iface 97 (.pointer (some ⟨t, 0, none⟩))] w fun e w' => e = .returned (.bool true) ∧ w'.cell? ⟨t, 0, none⟩ = some (.int .i64 n) ∧ Turn [t] w w' :=
  (as_field b n t old w h1 hg ht0 hf0).mono fun e w' h => by
    obtain ⟨rfl, rfl⟩ := h
    exact ⟨rfl, as_after n t w old ht0⟩
/-- The number of what is wrong. -/
def erN : Er → Int
  | .plain n => n
  | .field _ n => n
theorem told_any {w : World} (hg : ErrT w) {v : Value} {er : Er} (h : ErrAt w v (some er)) : Calls Tryz.prog 35 #[v] w fun e w' => e = .returned (.int .i64 (erN er)) ∧ Below w.heap.size w w' := by
  have b0 : Below w.heap.size w (w.alloc (.cells #[.int .i64 0] 87)) := (Below.refl _ _).alloc (Nat.le_refl _) _
  have HG := Lib.hid (hg.below b0)
  have k0 := heap_alloc_last w (.cells #[.int .i64 0] 87)
  have HK := Lib.hid (show (w.alloc (.cells #[.int .i64 0] 87)).cell? ⟨w.heap.size, 0, none⟩ = some (.int .i64 0) from cells_at k0 0)
  have HZ := Lib.hid (frozen_at k0 0)
  have HB := Lib.hid b0
  clear k0 hg
  cases er with
  | plain n =>
    obtain rfl : v = .iface 87 (.int .i64 n) := h
    clear b0
    show Calls _ _ _ _ fun e w' => e = .returned (.int .i64 n) ∧ _
    have HI := Lib.hid (is_wrong n (w.alloc (.cells #[.int .i64 0] 87)))
    have HA := Lib.hid (as_wrong2 n w.heap.size _ _ HG.out HK.out HZ.out)
    by_cases h43 : n = 43
    · subst h43
      go_enter Tryz.func35, Tryz.ntmps35
      go_wp2_with fail
      refine HI.out.mono ?_
      rintro e w1 ⟨rfl, rfl⟩
      go_wp2_with fail
      go_ret
      exact ⟨rfl, HB.out⟩
    · have hd : decide (n = 43) = false := decide_eq_false h43
      go_enter Tryz.func35, Tryz.ntmps35
      go_wp2_with fail
      refine HI.out.mono ?_
      rintro e w1 ⟨rfl, rfl⟩
      go_wp2_with fail
      refine HA.out.mono ?_
      rintro e w1 ⟨rfl, hc, ht⟩
      have HB2 := Lib.hid (HB.out.trans (ht.below (HB.out.size) (fun k hk => by obtain rfl := List.mem_singleton.1 hk; exact Nat.le_refl _)))
      clear ht HA HI
      go_wp2_with fail
      go_ret
      exact ⟨rfl, HB2.out⟩
  | field no n =>
    obtain ⟨b, rfl, hb⟩ := h
    have h1 := b0.keptCell (cells_at hb 1)
    have H1 := Lib.hid (show (w.alloc (.cells #[.int .i64 0] 87)).cell? ⟨b, 1, none⟩ = some (.iface 87 (.int .i64 n)) from h1)
    clear b0 h1 hb
    show Calls _ _ _ _ fun e w' => e = .returned (.int .i64 n) ∧ _
    have HI := Lib.hid (is_field b n _ H1.out)
    have HA := Lib.hid (as_field2 b n w.heap.size _ _ H1.out HG.out HK.out HZ.out)
    by_cases h43 : n = 43
    · subst h43
      go_enter Tryz.func35, Tryz.ntmps35
      go_wp2_with fail
      refine HI.out.mono ?_
      rintro e w1 ⟨rfl, rfl⟩
      go_wp2_with fail
      go_ret
      exact ⟨rfl, HB.out⟩
    · have hd : decide (n = 43) = false := decide_eq_false h43
      go_enter Tryz.func35, Tryz.ntmps35
      go_wp2_with fail
      refine HI.out.mono ?_
      rintro e w1 ⟨rfl, rfl⟩
      go_wp2_with fail
      refine HA.out.mono ?_
      rintro e w1 ⟨rfl, hc, ht⟩
      have HB2 := Lib.hid (HB.out.trans (ht.below (HB.out.size) (fun k hk => by obtain rfl := List.mem_singleton.1 hk; exact Nat.le_refl _)))
      clear ht HA HI
      go_wp2_with fail
      go_ret
      exact ⟨rfl, HB2.out⟩
end Go.Proofs.YtommklkihjmgcaaGreatDoor.msgw
