/- asm.names by contract: the map of the names of lines, or that one stands twice. Condition: the lines' names are short enough to be keys; the sentinels' cells. -/
import Derived.Test.YtchkjfokoenlnaaDoorQLin
import Derived.Test.YtchkjfokoenlnaaDoorQNum
import Derived.Test.YtchkjfokoenlnaaDoorQLone
import Derived.Deep.QuietTactic
import Derived.BigQuiet
import Derived.Maps.OwnSet
import Derived.StringKeys
import Derived.StillTailTactics
namespace Go.Proofs.YtchkjfokoenlnaaDoor.Lin
open Go.WideMaps Go.RowKit Go.Proofs.YtchkjfokoenlnaaDoorW.PrintWords Go.Proofs.YtchkjfokoenlnaaDoorW.PrintLast Go.Proofs.YtchkjfokoenlnaaDoor.Ins Go.Proofs.YtchkjfokoenlnaaDoor.Err Go.Maps
set_option linter.unusedVariables false
set_option linter.unusedSimpArgs false
theorem law9 : Keyed Tryd.prog 9 := string_keyed Tryd.underlying9
theorem zero3 (w : World) : (zeroValue 3).run Tryd.prog w = .ok (.int .i64 0) w := by kernel_rfl
theorem keyOf9 {s : ByteArray} (h : s.size ≤ maxLen) : keyOf Tryd.prog 9 (.string s) = some (keyL s) := keyOf_string_mk Tryd.underlying9 h
/-- Block b is the map of the first k lines' names. -/
def MapAt (w : World) (b : Nat) (ls : List Ln) (k : Nat) : Prop := w.ownsMap Tryd.prog 9 (plainElem Tryd.prog 3) b k (tab ls k)

theorem empty_is (s : ByteArray) : s.toList.isEmpty = decide (s = ⟨#[]⟩) := by
  rw [ByteArray.toList_eq]
  obtain ⟨⟨l⟩⟩ := s
  cases l <;> simp
theorem look_ok {w : World} {b k : Nat} {ls : List Ln} (h : MapAt w b ls k) {s : ByteArray} (hs : s.size ≤ maxLen) :
    (Instr.lookup 48 (.map (some b)) (.string s) true).run Tryd.prog w = .ok (.tuple #[.int .i64 (numOf ((tab ls k).atKey (keyL s) (.lit (.int .i64 0)))), .bool (hasT ls k s)]) w := by
  obtain ⟨v, ps, hrun, hv⟩ := h.look_ok law9 Tryd.underlying48 (zero3 w) (plainElem_int Tryd.underlying3 (by decide)) (keyOf9 hs)
  obtain ⟨c, rfl, hc, _⟩ := plainElem_int_inv Tryd.underlying3 hv
  simp only [Prod.mk.injEq] at hc
  rw [hrun, hc.1]
  rfl
theorem look_in {w : World} {b k : Nat} {ls : List Ln} (h : MapAt w b ls k) {s : ByteArray} (hs : s.size ≤ maxLen) :
    (Instr.lookup 48 (.map (some b)) (.string s) false).run Tryd.prog w = .ok (.int .i64 (numOf ((tab ls k).atKey (keyL s) (.lit (.int .i64 0))))) w := by
  obtain ⟨v, ps, hrun, hv⟩ := h.lookup law9 Tryd.underlying48 (zero3 w) (plainElem_int Tryd.underlying3 (by decide)) (keyOf9 hs)
  obtain ⟨c, rfl, hc, _⟩ := plainElem_int_inv Tryd.underlying3 hv
  simp only [Prod.mk.injEq] at hc
  rw [hrun, hc.1]
  rfl
theorem store_at {w : World} {b k : Nat} {ls : List Ln} (h : MapAt w b ls k) (hk : k < maxLen) (hne : (ls.getD k z33).lab ≠ ⟨#[]⟩) (hs : (ls.getD k z33).lab.size ≤ maxLen) :
    ∃ w2, (Instr.mapUpdate 48 (.map (some b)) (.string (ls.getD k z33).lab) (.int .i64 (k : Int))).run Tryd.prog w = .ok () w2 ∧ MapAt w2 b ls (k + 1) ∧ w.mapTurned w2 b := by
  have hwf : (Lit.int .i64 (k : Int)).wf = true := WalkArith.wf_i64 (by unfold maxLen at hk; omega)
  obtain ⟨w2, r1, r2, r3⟩ := h.store law9 Tryd.underlying48 hk (keyOf9 hs) (plainElem_int Tryd.underlying3 hwf)
  exact ⟨w2, r1, by unfold MapAt; rw [tab_succ hne]; exact r2, r3⟩
theorem MapAt.alloc {w : World} {b k : Nat} {ls : List Ln} (h : MapAt w b ls k) (o : Obj) : MapAt (w.alloc o) b ls k := World.ownsMap.alloc h o
theorem MapAt.below {w w' : World} {b k : Nat} {ls : List Ln} (h : MapAt w b ls k) (hb : Below w.heap.size w w') : MapAt w' b ls k := by
  have hlt := World.ownsMap.lt h
  obtain ⟨es, clock, h1, F, hs, hD⟩ := h
  exact ⟨es, clock, (hb.block b hlt).trans h1, F, hs, hD⟩
theorem MapAt.skip {w : World} {b k : Nat} {ls : List Ln} (h : MapAt w b ls k) (he : (ls.getD k z33).lab = ⟨#[]⟩) : MapAt w b ls (k + 1) := by
  unfold MapAt
  rw [tab_succ_empty he]
  exact World.ownsMap.mono h (Nat.le_succ _)

set_option maxRecDepth 100000 in
set_option maxHeartbeats 8000000 in
theorem names_calls (A : Option Addr) (c : Nat) (ls : List Ln) (hwf : ∀ x ∈ ls, x.Wf) (hc : ls.length ≤ c) (w : World) (hr : Kd.C k33 w A ls.length ls) (a0 a1 : Addr) (S : Sent w a0 a1) :
    Calls Tryd.prog 13 #[.slice A ls.length c] w fun e w' => Below w.heap.size w w' ∧
      ((Once ls ∧ ∃ b, e = .returned (.tuple #[.map (some b), .nilIface]) ∧ w.heap.size ≤ b ∧ MapAt w' b ls ls.length) ∨
       (¬ Once ls ∧ ∃ i : Nat, e = .returned (.tuple #[.map none, .iface 53 (.agg #[.int .i64 (i : Int), .iface 92 (.pointer (some a1))])]))) := by
  have HR := Aside0.mk hr
  have HS := Aside0.mk S
  have HWF := Aside0.mk hwf
  have HC := Aside0.mk hc
  clear hr S hwf hc
  have hmm := @run_makeMap Tryd.prog
  go_enter Tryd.func13, Tryd.ntmps13
  go_wp2
  go_loopw [12] (fun v12 wr => ∃ k : Nat, v12 = .int .i64 k ∧ Aside0 (k ≤ ls.length) ∧ Aside0 (∀ i, i < k → dup ls i = false) ∧ Aside0 (Below w.heap.size w wr) ∧ Aside0 (MapAt wr w.heap.size ls k)) (fun v12 _ => ls.length - (intOf v12).toNat)
  case atStart => exact ⟨0, rfl, ⟨Nat.zero_le _⟩, ⟨fun i hi => absurd hi (Nat.not_lt_zero _)⟩, ⟨(Below.refl _ _).alloc (Nat.le_refl _) _⟩, ⟨World.ownsMap_made _ _ _ _⟩⟩
  case round =>
    obtain ⟨k, rfl, HK, HD, HB, HM⟩ := hrel
    by_cases hk : k < ls.length
    · have hkI : (k : Int) < (ls.length : Int) := by omega
      obtain ⟨ad, rfl, f0, f1, f2, f3, f4, f5, f6⟩ := at_T33 (Kd.C_below HR.out HB.out) (k : Int) (by omega) hkI
      obtain ⟨x, hx⟩ : ∃ x, rd_T33 ls (k : Int) = x := ⟨_, rfl⟩
      rw [hx] at f0 f1 f2 f3 f4 f5 f6
      rw [Int.toNat_natCast] at f0 f1 f2 f3 f4 f5 f6
      have hx' : ls.getD k z33 = x := by rw [← hx]; unfold rd_T33; rw [Int.toNat_natCast]
      have HX := Aside0.mk hx'
      clear hx hx'
      have hwx : x.lab.size ≤ maxLen := by rw [← HX.out]; exact (wf_at HWF.out k).2.2.2.2.2.1
      have hlen : ls.length ≤ 9223372036854775807 := HR.out.2.1
      have hkm : k < maxLen := by unfold maxLen; omega
      have d1 : ∀ o, (wr.alloc o).cell? ⟨1, 0, none⟩ = some (.iface 92 (.pointer (some a1))) := fun o => (HS.out.below (below_alloc HB.out o)).c1
      obtain ⟨cv, hcv⟩ : ∃ c, numOf ((tab ls k).atKey (keyL x.lab) (.lit (.int .i64 0))) = c := ⟨_, rfl⟩
      obtain ⟨bv, hbv⟩ : ∃ b, hasT ls k x.lab = b := ⟨_, rfl⟩
      have hl : ∀ o, (Instr.lookup 48 (.map (some w.heap.size)) (.string x.lab) true).run Tryd.prog (wr.alloc o) = .ok (.tuple #[.int .i64 cv, .bool bv]) (wr.alloc o) := fun o => by
        rw [look_ok (HM.out.alloc o) hwx, hcv, hbv]
      have HBV := Aside0.mk hbv
      have hge : w.heap.size ≤ wr.heap.size := HB.out.size
      have hwk : wrap64 ((k : Int) + 1) = ((k + 1 : Nat) : Int) := by unfold wrap64; omega
      clear hbv hcv
      by_cases he : x.lab = ⟨#[]⟩
      · have ee : x.lab.toList.isEmpty = true := by rw [empty_is, he]; rfl
        have HE := Aside0.mk he
        clear he hl d1
        go_wp2
        refine ⟨⟨k + 1, by first | rfl | (simp; done) | (rw [hwk]; done), ⟨hk⟩, ⟨fun i hi => ?_⟩, ⟨below_alloc HB.out _⟩, ⟨(HM.out.skip (by rw [HX.out]; exact HE.out)).alloc _⟩⟩, by simp only [intOf]; omega⟩
        rcases Nat.lt_succ_iff_lt_or_eq.1 hi with h | h
        · exact HD.out i h
        · subst h; unfold dup; rw [HX.out, HE.out]; rfl
      · have ee : x.lab.toList.isEmpty = false := by rw [empty_is]; exact decide_eq_false he
        have HE := Aside0.mk he
        clear he
        cases bv with
        | true =>
          go_wp2
          go_quiet (fail)
          go_wp2
          refine bodyPost_ret (v := .tuple #[.map none, .iface 53 (.agg #[.int .i64 (k : Int), .iface 92 (.pointer (some a1))])]) (by simp [results, Tryd.results13, go_sem]) rfl ?_
          refine ⟨by repeat (first | exact below_alloc HB.out _ | refine pw_below_drewN ?_ _), .inr ⟨fun h => ?_, k, rfl⟩⟩
          have := h k hk
          unfold dup at this
          rw [HX.out, HBV.out] at this
          simp [HE.out] at this
        | false =>
          obtain ⟨o, ho⟩ : ∃ o, Obj.cells #[Value.string x.lab, Value.int IntKind.u8 x.ins.op, Value.int IntKind.u8 x.ins.rd, Value.int IntKind.u8 x.ins.rs1, Value.int IntKind.u8 x.ins.rs2, Value.int IntKind.i32 x.ins.imm, Value.string x.aim] 33 = o := ⟨_, rfl⟩
          obtain ⟨w2, hst, hm2, ht2⟩ := store_at (HM.out.alloc o) hkm (by rw [HX.out]; exact HE.out) (by rw [HX.out]; exact hwx)
          rw [HX.out] at hst
          have HM2 := Aside0.mk hm2
          have HT2 := Aside0.mk ht2
          clear hm2 ht2
          subst ho
          go_wp2
          refine ⟨⟨k + 1, by first | rfl | (simp; done) | (rw [hwk]; done), ⟨hk⟩, ⟨fun i hi => ?_⟩, ⟨?_⟩, ⟨HM2.out⟩⟩, by simp only [intOf]; omega⟩
          · rcases Nat.lt_succ_iff_lt_or_eq.1 hi with h | h
            · exact HD.out i h
            · subst h; unfold dup; rw [HX.out, HBV.out]; simp
          · exact (below_alloc HB.out _).grown HT2.out.grown (by simp; omega) (fun j hj => by cases hj; exact Nat.le_refl _)
    · have hkn : k = ls.length := by have := HK.out; omega
      have hkI : ¬ (k : Int) < (ls.length : Int) := by omega
      go_wp2
      refine bodyPost_ret (v := .tuple #[.map (some w.heap.size), .nilIface]) (by simp [results, Tryd.results13, go_sem]) rfl ?_
      subst hkn
      exact ⟨HB.out, .inl ⟨HD.out, _, rfl, Nat.le_refl _, HM.out⟩⟩
end Go.Proofs.YtchkjfokoenlnaaDoor.Lin
