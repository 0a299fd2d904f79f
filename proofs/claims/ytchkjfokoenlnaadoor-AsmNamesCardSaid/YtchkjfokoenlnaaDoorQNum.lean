/- asm.number by contract, for what asm hands it: an error with the number of a line, over a sentinel or over a number. No condition but on the sentinels' cells. -/
import Derived.Test.YtchkjfokoenlnaaDoorQErr
import Derived.Test.YtchkjfokoenlnaaDoorWLast
import Derived.Deep.QuietTactic
import Derived.BigQuiet
namespace Go.Proofs.YtchkjfokoenlnaaDoor.Err
open Go.RowKit Go.Extern.Stop Go.Stop Go.Extern Go.Proofs.YtchkjfokoenlnaaDoorW.PrintWords Go.Proofs.YtchkjfokoenlnaaDoorW.PrintLast
set_option linter.unusedVariables false
set_option linter.unusedSimpArgs false
/-- The two sentinels lie in the variables' cells; they are two. -/
structure Sent (w : World) (a0 a1 : Addr) : Prop where
  c0 : w.cell? ⟨0, 0, none⟩ = some (.iface 92 (.pointer (some a0)))
  c1 : w.cell? ⟨1, 0, none⟩ = some (.iface 92 (.pointer (some a1)))
  ne : a0 ≠ a1
  h0 : ∃ c t, w.heap[a0.block]? = some (.cells c t (0, 0))
  h1 : ∃ c t, w.heap[a1.block]? = some (.cells c t (0, 0))
theorem cell_lt {w : World} {a : Addr} {v : Value} (h : w.cell? a = some v) : a.block < w.heap.size := by
  unfold World.cell? at h
  cases hb : w.heap[a.block]? with
  | none => simp [hb] at h
  | some o => exact (Array.getElem?_eq_some_iff.1 hb).1
theorem Sent.below {w w' : World} {a0 a1 : Addr} (h : Sent w a0 a1) (hb : Below w.heap.size w w') : Sent w' a0 a1 := by
  obtain ⟨c0, c1, ne, ⟨x0, t0, h0⟩, ⟨x1, t1, h1⟩⟩ := h
  exact ⟨(hb.cell (cell_lt c0)).trans c0, (hb.cell (cell_lt c1)).trans c1, ne, ⟨x0, t0, (hb.block _ (Array.getElem?_eq_some_iff.1 h0).1).trans h0⟩, ⟨x1, t1, (hb.block _ (Array.getElem?_eq_some_iff.1 h1).1).trans h1⟩⟩
theorem Sent.drew {w : World} {a0 a1 : Addr} (h : Sent w a0 a1) : Sent w.drew a0 a1 := ⟨h.c0, h.c1, h.ne, h.h0, h.h1⟩
theorem Sent.drewN {w : World} {a0 a1 : Addr} (h : Sent w a0 a1) (n : Nat) : Sent (w.drewN n) a0 a1 := by
  have e : (w.drewN n).heap = w.heap := by simp
  exact ⟨by have := h.c0; unfold World.cell? at this ⊢; rw [e]; exact this, by have := h.c1; unfold World.cell? at this ⊢; rw [e]; exact this, h.ne, by rw [e]; exact h.h0, by rw [e]; exact h.h1⟩
theorem eq_nil (u : TypeId) (v : Value) (w : World) : (binOp .eql 42 (.iface u v) .nilIface).run Tryd.prog w = .ok (.bool false) w := by
  have h : ∀ d : Nat, (Op.equalIn (d + 1) 42 (.iface u v) .nilIface).run Tryd.prog w = .ok false w := fun d => by simp [Op.equalIn, run_underlying Tryd.underlying42]
  simp only [binOp]
  simp [Op.equal, Op.maxDepth, h 9999]
theorem eq_nils (w : World) : (binOp .eql 42 .nilIface .nilIface).run Tryd.prog w = .ok (.bool true) w := by
  have h : ∀ d : Nat, (Op.equalIn (d + 1) 42 .nilIface .nilIface).run Tryd.prog w = .ok true w := fun d => by simp [Op.equalIn, run_underlying Tryd.underlying42]
  simp only [binOp]
  simp [Op.equal, Op.maxDepth, h 9999]
theorem ne_nil (u : TypeId) (v : Value) (w : World) : (binOp .neq 42 (.iface u v) .nilIface).run Tryd.prog w = .ok (.bool true) w := by
  have h : ∀ d : Nat, (Op.equalIn (d + 1) 42 (.iface u v) .nilIface).run Tryd.prog w = .ok false w := fun d => by simp [Op.equalIn, run_underlying Tryd.underlying42]
  simp only [binOp]
  simp [Op.equal, Op.maxDepth, h 9999]
theorem ne_nils (w : World) : (binOp .neq 42 .nilIface .nilIface).run Tryd.prog w = .ok (.bool false) w := by
  have h : ∀ d : Nat, (Op.equalIn (d + 1) 42 .nilIface .nilIface).run Tryd.prog w = .ok true w := fun d => by simp [Op.equalIn, run_underlying Tryd.underlying42]
  simp only [binOp]
  simp [Op.equal, Op.maxDepth, h 9999]
set_option maxRecDepth 100000 in
set_option maxHeartbeats 4000000 in
theorem number_twice (line : Int) (a0 a1 : Addr) (w : World) (S : Sent w a0 a1) :
    Calls Tryd.prog 11 #[.iface 53 (.agg #[.int .i64 line, .iface 92 (.pointer (some a1))])] w fun e w' => e = .returned (.int .i64 7) ∧ Below w.heap.size w w' := by
  have c0 := S.c0
  have c1 := S.c1
  have HS := Aside0.mk S
  clear S
  have hn := eq_nil
  go_enter Tryd.func11, Tryd.ntmps11
  go_wp2_with fail
  refine (is_at_same line a1 _).mono ?_
  intro e w1 h1; obtain ⟨h1, HB⟩ := h1; subst h1; replace HB := Aside0.mk HB
  go_wp2
  go_ret
  exact ⟨rfl, HB.out⟩
set_option maxRecDepth 100000 in
set_option maxHeartbeats 4000000 in
theorem number_none (line : Int) (a0 a1 : Addr) (w : World) (S : Sent w a0 a1) :
    Calls Tryd.prog 11 #[.iface 53 (.agg #[.int .i64 line, .iface 92 (.pointer (some a0))])] w fun e w' => e = .returned (.int .i64 6) ∧ Below w.heap.size w w' := by
  have c0 := S.c0
  have c1 := S.c1
  have HS := Aside0.mk S
  clear S
  have hn := eq_nil
  go_enter Tryd.func11, Tryd.ntmps11
  obtain ⟨x0, t0, h0⟩ := HS.out.h0
  obtain ⟨x1, t1, h1⟩ := HS.out.h1
  go_wp2_with fail
  refine (is_at_other line a0 a1 _ _ _ _ _ HS.out.ne h0 h1).mono ?_
  intro e w1 h1; obtain ⟨h1, HB⟩ := h1; subst h1; replace HB := Aside0.mk HB
  have d0 := (HS.out.below HB.out).c0
  have d1 := (HS.out.below HB.out).c1
  clear c0 c1
  go_wp2_with fail
  refine (is_at_same line a0 _).mono ?_
  intro e w2 h2; obtain ⟨h2, HB2⟩ := h2; subst h2; replace HB2 := Aside0.mk HB2
  go_wp2
  go_ret
  exact ⟨rfl, HB.out.trans (HB2.out.mono HB.out.size)⟩
set_option maxRecDepth 100000 in
set_option maxHeartbeats 4000000 in
theorem number_num (line v : Int) (a0 a1 : Addr) (w : World) (S : Sent w a0 a1) :
    Calls Tryd.prog 11 #[.iface 53 (.agg #[.int .i64 line, .iface 26 (.int .i64 v)])] w fun e w' => e = .returned (.int .i64 2) ∧ Below w.heap.size w w' := by
  have c0 := S.c0
  have c1 := S.c1
  have HS := Aside0.mk S
  clear S
  have hn := eq_nil
  go_enter Tryd.func11, Tryd.ntmps11
  go_wp2_with fail
  refine (is_at_num line v a1 _).mono ?_
  intro e w1 h1; obtain ⟨h1, HB⟩ := h1; subst h1; replace HB := Aside0.mk HB
  have d0 := (HS.out.below HB.out).c0
  have d1 := (HS.out.below HB.out).c1
  clear c0 c1
  go_wp2_with fail
  refine (is_at_num line v a0 _).mono ?_
  intro e w2 h2; obtain ⟨h2, HB2⟩ := h2; subst h2; replace HB2 := Aside0.mk HB2
  go_wp2
  go_ret
  exact ⟨rfl, HB.out.trans (HB2.out.mono HB.out.size)⟩
end Go.Proofs.YtchkjfokoenlnaaDoor.Err
