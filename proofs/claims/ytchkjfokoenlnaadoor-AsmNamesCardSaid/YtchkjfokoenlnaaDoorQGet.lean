/- asm.Get by contract: getL. Conditions: the words are words, at most 1048576 of them. -/
import Derived.Test.YtchkjfokoenlnaaDoorQLin
import Derived.Test.YtchkjfokoenlnaaDoorQInsG1
import Derived.Deep.QuietTactic
import Derived.BigQuiet
namespace Go.Proofs.YtchkjfokoenlnaaDoor.Lin
open Go.RowKit Go.Proofs.YtchkjfokoenlnaaDoorW.PrintWords Go.Proofs.YtchkjfokoenlnaaDoorW.PrintLast Go.Proofs.YtchkjfokoenlnaaDoor.Ins Go.Proofs.YtchkjfokoenlnaaDoor.InsP
set_option linter.unusedVariables false
set_option linter.unusedSimpArgs false
theorem info33 : (Tryd.prog.info? 33).map (fun i => (i.zero, i.size, i.bytes)) = some (some (.agg #[.string ⟨#[]⟩, .int .u8 0, .int .u8 0, .int .u8 0, .int .u8 0, .int .i32 0, .string ⟨#[]⟩]), 7, 40) := by kernel_rfl
/-- Each word is one of an instruction. -/
def GoodW (ws : List Int) : Prop := ∀ i, i < ws.length → (getS (ws.getD i 0)).2 = 0
def linesOf (ws : List Int) (k : Nat) : List Ln := (List.range k).map fun i => ⟨⟨#[]⟩, (getS (ws.getD i 0)).1, ⟨#[]⟩⟩
theorem linesOf_len (ws : List Int) (k : Nat) : (linesOf ws k).length = k := by unfold linesOf; simp
theorem linesOf_succ (ws : List Int) (k : Nat) : linesOf ws (k + 1) = linesOf ws k ++ [⟨⟨#[]⟩, (getS (ws.getD k 0)).1, ⟨#[]⟩⟩] := by
  unfold linesOf
  rw [List.range_succ, List.map_append]; rfl
set_option maxRecDepth 100000 in
set_option maxHeartbeats 8000000 in
theorem get_all (base : Int) (A : Option Addr) (c : Nat) (ws : List Int) (hws : ∀ i, 0 ≤ ws.getD i 0 ∧ ws.getD i 0 < 4294967296) (hlen : ws.length ≤ 1048576) (hc : ws.length ≤ c) (w : World) (hr : Kd.C (Kd.int .u32) w A ws.length ws) :
    Calls Tryd.prog 8 #[.int .u32 base, .slice A ws.length c] w fun e w' => Below w.heap.size w w' ∧
      ((¬ GoodW ws ∧ e = .returned (.tuple #[.slice none 0 0, .int .i64 2])) ∨
       (GoodW ws ∧ ∃ v, e = .returned (.tuple #[v, .int .i64 0]) ∧ k33.R 33 w' w.heap.size (fun _ => True) v (linesOf ws ws.length))) := by
  have HR := Aside0.mk hr
  have HWS := Aside0.mk hws
  have HL := Aside0.mk hlen
  have HC := Aside0.mk hc
  clear hr hws hlen hc
  go_enter Tryd.func8, Tryd.ntmps8
  go_wp2
  go_loopw [6, 13] (fun v6 v13 wr => ∃ j : Nat, v13 = .int .i64 j ∧ Aside0 (j ≤ ws.length) ∧ Aside0 (∀ i, i < j → (getS (ws.getD i 0)).2 = 0) ∧ Aside0 (Below w.heap.size w wr) ∧ Aside0 (k33.R 33 wr w.heap.size (fun _ => True) v6 (linesOf ws j))) (fun _ v13 _ => ws.length - (intOf v13).toNat)
  case atStart => exact ⟨0, rfl, ⟨Nat.zero_le _⟩, ⟨fun i hi => absurd hi (Nat.not_lt_zero _)⟩, ⟨Below.refl _ _⟩, ⟨Kd.R_nil _ _ _ _ _⟩⟩
  case round =>
    obtain ⟨j, rfl, HJ, HD, HB, HV⟩ := hrel
    by_cases hj : j < ws.length
    · have hjI : (j : Int) < (ws.length : Int) := by omega
      have hj0 : (0 : Int) ≤ (j : Int) := by omega
      obtain ⟨ad, rfl, f0⟩ := Kd.at_int HR.out (j : Int) hj0 hjI
      obtain ⟨x, hx⟩ : ∃ x, rd ws (j : Int) = x := ⟨_, rfl⟩
      rw [hx] at f0
      rw [Int.toNat_natCast] at f0
      have hx' : ws.getD j 0 = x := by rw [← hx]; unfold rd; rw [Int.toNat_natCast]
      replace f0 := (HB.out.cell (World.block_lt_of_cell? w _ f0)).trans f0
      have HX := Aside0.mk hx'
      clear hx hx'
      have hlen := HL.out
      have hwk : wrap64 ((j : Int) + 1) = ((j + 1 : Nat) : Int) := by unfold wrap64; omega
      go_wp2_with fail
      refine (get_calls x (by rw [← HX.out]; exact (HWS.out j).1) (by rw [← HX.out]; exact (HWS.out j).2) _).mono ?_
      intro e w3 h3; obtain ⟨h3, hb3⟩ := h3; subst h3
      obtain ⟨y, er, hp⟩ : ∃ a b, getS x = (a, b) := ⟨_, _, rfl⟩
      rw [hp]
      have HP : Aside0 (getS (ws.getD j 0) = (y, er)) := ⟨by rw [HX.out, hp]⟩
      clear hp
      simp only [getV]
      have HV3 : Aside0 (k33.R 33 w3 w.heap.size (fun _ => True) u6 (linesOf ws j)) := ⟨Kd.R_below HV.out hb3⟩
      have HB3 : Aside0 (Below w.heap.size w w3) := ⟨HB.out.trans (hb3.mono HB.out.size)⟩
      clear hb3
      by_cases her : er = 0
      · have er1 : (er != 0) = false := by rw [her]; rfl
        have HE0 := Aside0.mk her
        clear her
        go_wp2_with ((with_reducible refine gate_builtin (b := .append) (xs := #[.tmp 24, .tmp 27]) rfl ?_); at_builtin; refine Aside0.out ?_)
        refine Aside0.mk ?_
        refine Kd.R_append k33 (w0 := w) w.heap.size rfl (.tmp 24) (.tmp 27) 23 33 (.agg #[.string ⟨#[]⟩, .int .u8 0, .int .u8 0, .int .u8 0, .int .u8 0, .int .i32 0, .string ⟨#[]⟩]) 40 rfl Tryd.underlying23 info33 rfl (by decide) (by omega) u6 (linesOf ws j) ⟨⟨#[]⟩, y, ⟨#[]⟩⟩ [.string ⟨#[]⟩, .int .u8 y.op, .int .u8 y.rd, .int .u8 y.rs1, .int .u8 y.rs2, .int .i32 y.imm, .string ⟨#[]⟩] (fun _ => True) (fun _ => False) rfl ?aX ?aP (fun _ hk => hk.elim) ?aF ?aO ?aB ?aS ?aL ?_
        case aX => simp [Act.eval]
        case aP => exact k33_mkM _ _ _ ⟨⟨#[]⟩, y, ⟨#[]⟩⟩
        case aB => exact below_alloc HB3.out _
        case aF => exact (fun _ _ => trivial)
        case aO => exact Kd.R_alloc HV3.out _
        case aS => exact (below_alloc HB3.out _).size
        case aL => rw [linesOf_len]; omega
        intro v106 w7 ho hb hg hat
        have HO7 := Aside0.mk ho
        have HB7 := Aside0.mk hb
        clear ho hb hg hat
        go_wp2
        refine ⟨⟨j + 1, by first | rfl | (simp; done) | (rw [hwk]; done), ⟨hj⟩, ⟨fun i hi => ?_⟩, HB7, ⟨by rw [linesOf_succ, HP.out]; exact HO7.out⟩⟩, by simp only [intOf]; omega⟩
        rcases Nat.lt_succ_iff_lt_or_eq.1 hi with h | h
        · exact HD.out i h
        · subst h; rw [HP.out]; exact HE0.out
      · have er1 : (er != 0) = true := by simpa using her
        have HE0 := Aside0.mk her
        clear her
        go_wp2
        refine bodyPost_ret (v := .tuple #[.slice none 0 0, .int .i64 2]) (by simp [results, Tryd.results8, go_sem]) rfl ?_
        refine ⟨below_alloc HB3.out _, .inl ⟨fun h => HE0.out ?_, rfl⟩⟩
        have := h j hj
        rw [HP.out] at this
        exact this
    · have hjn : j = ws.length := by have := HJ.out; omega
      have hjI : ¬ (j : Int) < (ws.length : Int) := by omega
      go_wp2
      refine bodyPost_ret (v := .tuple #[u6, .int .i64 0]) (by simp [results, Tryd.results8, go_sem]) rfl ?_
      subst hjn
      exact ⟨HB.out, .inr ⟨HD.out, _, rfl, HV.out⟩⟩
end Go.Proofs.YtchkjfokoenlnaaDoor.Lin
