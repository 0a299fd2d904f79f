/- errors.Is and asm.number by contract, for what asm hands them: an error with the number of a line, over a sentinel or over a number. No condition but on the sentinels' cells. -/
import Derived.Test.YtchkjfokoenlnaaDoorProg
import Derived.WalkKit
import Derived.LaidEql
import Derived.Stop.Asserts
import Derived.RowKitTokens
import Derived.Test.YtchkjfokoenlnaaDoorWWords
namespace Go.Proofs.YtchkjfokoenlnaaDoor.Err
open Go.RowKit Go.Extern.Stop Go.Stop Go.Extern Go.Proofs.YtchkjfokoenlnaaDoorW.PrintWords
set_option linter.unusedVariables false
set_option linter.unusedSimpArgs false

/-! What the model finds of the types: 42 error, 92 *errors.errorString, 117 errors.errorString, 53 asm.at, 26 api.Errno, 81 reflectlite.rtype; 83, 86, 88: the interfaces that errors.is asks for. -/
theorem isTypeOf (v : Value) (w : World) : (Extern.ReflectliteType.typeOf #[.iface 92 v]).run Tryd.prog w = .ok (.iface 81 (.agg #[.pointer (some ⟨2, 92, none⟩)])) w := by kernel_rfl
theorem isFind : Go.Extern.find Tryd.f74 = some (Extern.ReflectliteType.method fun t => do Go.Extern.Rtype.noPackHeld "Comparable" t; pure (.bool (← typeInfo t).comparable)) := by kernel_rfl
theorem isComparable0 (w : World) : ((Extern.ReflectliteType.method fun t => do Go.Extern.Rtype.noPackHeld "Comparable" t; pure (.bool (← typeInfo t).comparable)) #[.agg #[.pointer (some ⟨2, 92, none⟩)]]).run Tryd.prog w = .ok (.bool true) w := by kernel_rfl
theorem isComparable (w : World) : (callFunc 74 #[.agg #[.pointer (some ⟨2, 92, none⟩)]]).run Tryd.prog w = .ok (.value (.bool true)) w := by
  rw [@run_callFunc_extern Tryd.prog 74 _ _ Tryd.func74 (by kernel_rfl) (by kernel_rfl) (by kernel_rfl) isFind, isComparable0]
  rfl
theorem isMethodComparable (v : Value) (w : World) : (Go.method 229 81 v "Comparable").run Tryd.prog w = .ok (74, v) w := by kernel_rfl
theorem isComp : (Tryd.prog.info? 92).map (·.comparable) = some true := by kernel_rfl
theorem isSize : (Tryd.prog.info? 117).map (·.size) = some 1 := by kernel_rfl
theorem noIsE (v : Value) (xT : TypeId) (w : World) : (Instr.typeAssert (.iface 92 v) xT 83 true).run Tryd.prog w = .ok (.tuple #[.nilIface, .bool false]) w := run_typeAssert_lacksB Tryd.underlying83 (by kernel_rfl) (by kernel_rfl) v xT w
theorem noUnwrapE (v : Value) (xT : TypeId) (w : World) : (Instr.typeAssert (.iface 92 v) xT 86 true).run Tryd.prog w = .ok (.tuple #[.nilIface, .bool false]) w := run_typeAssert_lacksB Tryd.underlying86 (by kernel_rfl) (by kernel_rfl) v xT w
theorem noUnwrapsE (v : Value) (xT : TypeId) (w : World) : (Instr.typeAssert (.iface 92 v) xT 88 true).run Tryd.prog w = .ok (.tuple #[.nilIface, .bool false]) w := run_typeAssert_lacksB Tryd.underlying88 (by kernel_rfl) (by kernel_rfl) v xT w
theorem noIsN (v : Value) (xT : TypeId) (w : World) : (Instr.typeAssert (.iface 26 v) xT 83 true).run Tryd.prog w = .ok (.tuple #[.nilIface, .bool false]) w := run_typeAssert_lacksB Tryd.underlying83 (by kernel_rfl) (by kernel_rfl) v xT w
theorem noUnwrapN (v : Value) (xT : TypeId) (w : World) : (Instr.typeAssert (.iface 26 v) xT 86 true).run Tryd.prog w = .ok (.tuple #[.nilIface, .bool false]) w := run_typeAssert_lacksB Tryd.underlying86 (by kernel_rfl) (by kernel_rfl) v xT w
theorem noUnwrapsN (v : Value) (xT : TypeId) (w : World) : (Instr.typeAssert (.iface 26 v) xT 88 true).run Tryd.prog w = .ok (.tuple #[.nilIface, .bool false]) w := run_typeAssert_lacksB Tryd.underlying88 (by kernel_rfl) (by kernel_rfl) v xT w
theorem noIsA (v : Value) (xT : TypeId) (w : World) : (Instr.typeAssert (.iface 53 v) xT 83 true).run Tryd.prog w = .ok (.tuple #[.nilIface, .bool false]) w := run_typeAssert_lacksB Tryd.underlying83 (by kernel_rfl) (by kernel_rfl) v xT w
theorem hasUnwrapA (v : Value) (xT : TypeId) (w : World) : (Instr.typeAssert (.iface 53 v) xT 86 true).run Tryd.prog w = .ok (.tuple #[.iface 53 v, .bool true]) w := run_typeAssert_hasB Tryd.underlying86 (by kernel_rfl) v xT w
theorem methodUnwrap (x y : Value) (w : World) : (Go.method 229 53 (.agg #[x, y]) "Unwrap").run Tryd.prog w = .ok (70, .agg #[x, y]) w := by kernel_rfl
set_option maxRecDepth 100000 in
set_option maxHeartbeats 4000000 in
theorem is_at_same (line : Int) (a : Addr) (w : World) :
    Calls Tryd.prog 16 #[.iface 53 (.agg #[.int .i64 line, .iface 92 (.pointer (some a))]), .iface 92 (.pointer (some a))] w fun e w' => e = .returned (.bool true) ∧ Below w.heap.size w w' := by
  obtain ⟨i, hi, hcmp⟩ := Option.map_eq_some_iff.1 isComp
  obtain ⟨j, hj, hjs⟩ := Option.map_eq_some_iff.1 isSize
  have h8 := @run_callFunc_extern Tryd.prog 22 _ Extern.ReflectliteType.typeOf Tryd.func22 (by kernel_rfl) (by kernel_rfl) (by kernel_rfl) (by kernel_rfl)
  have tT := isTypeOf
  have cT := isComparable
  have mR := isMethodComparable
  have nE := noIsE
  have uE := noUnwrapE
  have vE := noUnwrapsE
  have nN := noIsN
  have uN := noUnwrapN
  have vN := noUnwrapsN
  have nA := noIsA
  have uA := hasUnwrapA
  have mU := methodUnwrap
  have heq := fun w => run_eql_iface_ptr_same (P := Tryd.prog) w a Tryd.underlying42 Tryd.underlying92 hi hcmp hj
  have hty := run_eql_iface_types (P := Tryd.prog) 53 92 (.agg #[.int .i64 line, .iface 92 (.pointer (some a))]) (.pointer (some a)) Tryd.underlying42 (by decide)
  go_enter Tryd.func16, Tryd.ntmps16
  go_wp2
  refine wp_loop_rounds 2 ?_
  rw [rounds_succ]
  go_wp2
  rw [rounds_succ]
  go_wp2
  go_ret
  exact ⟨rfl, by repeat (first | exact Below.refl _ _ | apply below_alloc)⟩
set_option maxRecDepth 100000 in
set_option maxHeartbeats 4000000 in
theorem is_at_other (line : Int) (a b : Addr) (ca cb : Array Value) (ta tb : TypeId) (w : World) (hne : a ≠ b) (ha : w.heap[a.block]? = some (.cells ca ta (0, 0))) (hb : w.heap[b.block]? = some (.cells cb tb (0, 0))) :
    Calls Tryd.prog 16 #[.iface 53 (.agg #[.int .i64 line, .iface 92 (.pointer (some a))]), .iface 92 (.pointer (some b))] w fun e w' => e = .returned (.bool false) ∧ Below w.heap.size w w' := by
  obtain ⟨i, hi, hcmp⟩ := Option.map_eq_some_iff.1 isComp
  obtain ⟨j, hj, hjs⟩ := Option.map_eq_some_iff.1 isSize
  have h8 := @run_callFunc_extern Tryd.prog 22 _ Extern.ReflectliteType.typeOf Tryd.func22 (by kernel_rfl) (by kernel_rfl) (by kernel_rfl) (by kernel_rfl)
  have tT := isTypeOf
  have cT := isComparable
  have mR := isMethodComparable
  have nE := noIsE
  have uE := noUnwrapE
  have vE := noUnwrapsE
  have nN := noIsN
  have uN := noUnwrapN
  have vN := noUnwrapsN
  have nA := noIsA
  have uA := hasUnwrapA
  have mU := methodUnwrap
  have ha2 : ∀ o, (w.alloc o).heap[a.block]? = some (.cells ca ta (0, 0)) := fun o => ((below_alloc (Below.refl _ _) _).block _ (Array.getElem?_eq_some_iff.1 ha).1).trans ha
  have hb2 : ∀ o, (w.alloc o).heap[b.block]? = some (.cells cb tb (0, 0)) := fun o => ((below_alloc (Below.refl _ _) _).block _ (Array.getElem?_eq_some_iff.1 hb).1).trans hb
  have heq := fun o => run_eql_iface_ptr_other (P := Tryd.prog) (w.alloc o) Tryd.underlying42 Tryd.underlying92 hi hcmp hj (by rw [hjs]; decide) hne (ha2 o) (hb2 o)
  have hty := run_eql_iface_types (P := Tryd.prog) 53 92 (.agg #[.int .i64 line, .iface 92 (.pointer (some a))]) (.pointer (some b)) Tryd.underlying42 (by decide)
  clear ha2 hb2
  go_enter Tryd.func16, Tryd.ntmps16
  go_wp2
  refine wp_loop_rounds 2 ?_
  rw [rounds_succ]
  go_wp2
  rw [rounds_succ]
  go_wp2
  go_ret
  exact ⟨rfl, by repeat (first | exact Below.refl _ _ | apply below_alloc)⟩
set_option maxRecDepth 100000 in
set_option maxHeartbeats 4000000 in
theorem is_at_num (line v : Int) (b : Addr) (w : World) :
    Calls Tryd.prog 16 #[.iface 53 (.agg #[.int .i64 line, .iface 26 (.int .i64 v)]), .iface 92 (.pointer (some b))] w fun e w' => e = .returned (.bool false) ∧ Below w.heap.size w w' := by
  obtain ⟨i, hi, hcmp⟩ := Option.map_eq_some_iff.1 isComp
  obtain ⟨j, hj, hjs⟩ := Option.map_eq_some_iff.1 isSize
  have h8 := @run_callFunc_extern Tryd.prog 22 _ Extern.ReflectliteType.typeOf Tryd.func22 (by kernel_rfl) (by kernel_rfl) (by kernel_rfl) (by kernel_rfl)
  have tT := isTypeOf
  have cT := isComparable
  have mR := isMethodComparable
  have nE := noIsE
  have uE := noUnwrapE
  have vE := noUnwrapsE
  have nN := noIsN
  have uN := noUnwrapN
  have vN := noUnwrapsN
  have nA := noIsA
  have uA := hasUnwrapA
  have mU := methodUnwrap
  have hty := run_eql_iface_types (P := Tryd.prog) 53 92 (.agg #[.int .i64 line, .iface 26 (.int .i64 v)]) (.pointer (some b)) Tryd.underlying42 (by decide)
  have hty2 := run_eql_iface_types (P := Tryd.prog) 26 92 (.int .i64 v) (.pointer (some b)) Tryd.underlying42 (by decide)
  go_enter Tryd.func16, Tryd.ntmps16
  go_wp2
  refine wp_loop_rounds 2 ?_
  rw [rounds_succ]
  go_wp2
  rw [rounds_succ]
  go_wp2
  go_ret
  exact ⟨rfl, by repeat (first | exact Below.refl _ _ | apply below_alloc)⟩
end Go.Proofs.YtchkjfokoenlnaaDoor.Err
