/- asm.put by contract: the words of lines, or what is wrong. Conditions: the lines' numbers are within their kinds, their names short enough to be keys, at most 1048576 lines; the sentinels' cells. -/
import Derived.Test.YtchkjfokoenlnaaDoorQNam
import Derived.Test.YtchkjfokoenlnaaDoorQLead
import Derived.Test.YtchkjfokoenlnaaDoorQInsE
import Derived.Laws.MakeOwn
namespace Go.Proofs.YtchkjfokoenlnaaDoor.Lin
open Go.WideMaps Go.RowKit Go.Proofs.YtchkjfokoenlnaaDoorW.PrintWords Go.Proofs.YtchkjfokoenlnaaDoorW.PrintLast Go.Proofs.YtchkjfokoenlnaaDoor.Ins Go.Proofs.YtchkjfokoenlnaaDoor.InsP Go.Proofs.YtchkjfokoenlnaaDoor.Err Go.Maps
set_option linter.unusedVariables false
set_option linter.unusedSimpArgs false
theorem info22 : (Tryd.prog.info? 22).map (fun i => (i.zero, i.size, i.bytes)) = some (some (.int .u32 0), 1, 4) := by kernel_rfl
theorem make_words (w : World) (n : Nat) (hn : n ≤ 1048576) : ∃ v w', (Instr.makeSlice 25 (.int .i64 0) (.int .i64 (n : Int))).run Tryd.prog w = .ok v w' ∧ (Kd.int .u32).R 22 w' w.heap.size (fun _ => True) v [] ∧ Below w.heap.size w w' := by
  obtain ⟨i, hi, hz⟩ := Option.map_eq_some_iff.1 info22
  simp only [Prod.mk.injEq] at hz
  obtain ⟨h0, h1, h2⟩ := hz
  obtain ⟨w', r1, r2, r3⟩ := run_make_own (P := Tryd.prog) w w.heap.size 25 22 i (.int .u32 0) 1 Tryd.underlying25 hi h0 h1 .i64 .i64 n (by rw [h2]; omega) (by unfold maxLen; omega) (Nat.le_refl _)
  exact ⟨_, w', r1, ⟨fun _ _ => trivial, [], r2, Reps.none _ _⟩, (Below.refl _ _).grown r3 (Nat.le_refl _) (fun _ h => by cases h)⟩
theorem words_succ (ls : List Ln) (k : Nat) : wordsL ls (k + 1) = wordsL ls k ++ [(lineW ls k).1] := by
  unfold wordsL
  rw [List.range_succ, List.map_append]; rfl
theorem words_len (ls : List Ln) (k : Nat) : (wordsL ls k).length = k := by unfold wordsL; simp
def errV (l v : Value) : Value := .tuple #[.slice none 0 0, .iface 53 (.agg #[l, v])]

set_option maxRecDepth 100000 in
set_option maxHeartbeats 16000000 in
theorem put_lines (A : Option Addr) (c : Nat) (ls : List Ln) (hwf : ∀ x ∈ ls, x.Wf) (hlen : ls.length ≤ 1048576) (hc : ls.length ≤ c) (w : World) (hr : Kd.C k33 w A ls.length ls) (a0 a1 : Addr) (S : Sent w a0 a1) :
    Calls Tryd.prog 10 #[.slice A ls.length c] w fun e w' => Below w.heap.size w w' ∧
      ((¬ Once ls ∧ ∃ i : Int, e = .returned (.tuple #[.slice none 0 0, .iface 53 (.agg #[.int .i64 i, .iface 92 (.pointer (some a1))])])) ∨
       (Once ls ∧ ¬ Stand ls ∧ ∃ i : Int, e = .returned (.tuple #[.slice none 0 0, .iface 53 (.agg #[.int .i64 i, .iface 92 (.pointer (some a0))])])) ∨
       (Once ls ∧ Stand ls ∧ ¬ Words ls ∧ ∃ i v : Int, e = .returned (.tuple #[.slice none 0 0, .iface 53 (.agg #[.int .i64 i, .iface 26 (.int .i64 v)])])) ∨
       (Once ls ∧ Stand ls ∧ Words ls ∧ ∃ v, e = .returned (.tuple #[v, .nilIface]) ∧ (Kd.int .u32).R 22 w' w.heap.size (fun _ => True) v (wordsL ls ls.length))) := by
  have HR := Aside0.mk hr
  have HS := Aside0.mk S
  have HWF := Aside0.mk hwf
  have HC := Aside0.mk hc
  have HL := Aside0.mk hlen
  have NC := Aside0.mk (names_calls A c ls hwf hc w hr a0 a1 S)
  clear hr S hwf hc hlen
  go_enter Tryd.func10, Tryd.ntmps10
  go_wp2_with fail
  refine NC.out.mono ?_
  clear NC
  intro e w1 ⟨hb1, hcase⟩
  have HB1 := Aside0.mk hb1
  clear hb1
  have hne := Err.ne_nil
  have hns := Err.ne_nils
  rcases hcase with ⟨honce, b, he, hbb, hmap⟩ | ⟨honce, i, he⟩
  · subst he
    have HO := Aside0.mk honce
    have HM := Aside0.mk hmap
    have HBB := Aside0.mk hbb
    clear honce hmap hbb
    go_wp2
    go_loopw [26] (fun v26 wr => ∃ k : Nat, v26 = .int .i64 k ∧ Aside0 (k ≤ ls.length) ∧ Aside0 (∀ i, i < k → (ls.getD i z33).aim = ⟨#[]⟩ ∨ hasT ls ls.length (ls.getD i z33).aim = true) ∧ Aside0 (Below w1.heap.size w1 wr)) (fun v26 _ => ls.length - (intOf v26).toNat)
    case atStart => exact ⟨0, rfl, ⟨Nat.zero_le _⟩, ⟨fun i hi => absurd hi (Nat.not_lt_zero _)⟩, ⟨Below.refl _ _⟩⟩
    case round =>
      obtain ⟨k, rfl, HK, HD, HB⟩ := hrel
      have HBW : Aside0 (Below w.heap.size w wr) := ⟨HB1.out.trans (HB.out.mono HB1.out.size)⟩
      by_cases hk : k < ls.length
      · have hkI : (k : Int) < (ls.length : Int) := by omega
        obtain ⟨ad, rfl, f0, f1, f2, f3, f4, f5, f6⟩ := at_T33 (Kd.C_below HR.out HBW.out) (k : Int) (by omega) hkI
        obtain ⟨x, hx⟩ : ∃ x, rd_T33 ls (k : Int) = x := ⟨_, rfl⟩
        rw [hx] at f0 f1 f2 f3 f4 f5 f6
        rw [Int.toNat_natCast] at f0 f1 f2 f3 f4 f5 f6
        have hx' : ls.getD k z33 = x := by rw [← hx]; unfold rd_T33; rw [Int.toNat_natCast]
        have HX := Aside0.mk hx'
        clear hx hx'
        have hwx : x.aim.size ≤ maxLen := by rw [← HX.out]; exact (wf_at HWF.out k).2.2.2.2.2.2
        have hlen := HL.out
        have d0 : ∀ o, (wr.alloc o).cell? ⟨0, 0, none⟩ = some (.iface 92 (.pointer (some a0))) := fun o => (HS.out.below (below_alloc HBW.out o)).c0
        obtain ⟨cv, hcv⟩ : ∃ c, numOf ((tab ls ls.length).atKey (keyL x.aim) (.lit (.int .i64 0))) = c := ⟨_, rfl⟩
        obtain ⟨bv, hbv⟩ : ∃ b, hasT ls ls.length x.aim = b := ⟨_, rfl⟩
        have hl : ∀ o, (Instr.lookup 48 (.map (some b)) (.string x.aim) true).run Tryd.prog (wr.alloc o) = .ok (.tuple #[.int .i64 cv, .bool bv]) (wr.alloc o) := fun o => by
          rw [look_ok ((HM.out.below HB.out).alloc o) hwx, hcv, hbv]
        have HBV := Aside0.mk hbv
        clear hbv hcv
        have hwk : wrap64 ((k : Int) + 1) = ((k + 1 : Nat) : Int) := by unfold wrap64; omega
        have hgo : x.aim = ⟨#[]⟩ ∨ bv = true → (∀ i, i < k + 1 → (ls.getD i z33).aim = ⟨#[]⟩ ∨ hasT ls ls.length (ls.getD i z33).aim = true) := fun h i hi => by
          rcases Nat.lt_succ_iff_lt_or_eq.1 hi with h1 | h1
          · exact HD.out i h1
          · subst h1; rw [HX.out]; rcases h with h | h
            · exact .inl h
            · exact .inr (HBV.out.trans h)
        have HGO := Aside0.mk hgo
        clear hgo
        by_cases he : x.aim = ⟨#[]⟩
        · have ee : x.aim.toList.isEmpty = true := by rw [empty_is, he]; rfl
          have HE := Aside0.mk he
          clear he d0
          go_wp2
          all_goals exact ⟨⟨k + 1, by first | rfl | (simp; done) | (rw [hwk]; done), ⟨hk⟩, ⟨HGO.out (.inl HE.out)⟩, ⟨below_alloc HB.out _⟩⟩, by simp only [intOf]; omega⟩
        · have ee : x.aim.toList.isEmpty = false := by rw [empty_is]; exact decide_eq_false he
          have HE := Aside0.mk he
          clear he
          cases bv with
          | true =>
            go_wp2
            all_goals exact ⟨⟨k + 1, by first | rfl | (simp; done) | (rw [hwk]; done), ⟨hk⟩, ⟨HGO.out (.inr rfl)⟩, ⟨below_alloc HB.out _⟩⟩, by simp only [intOf]; omega⟩
          | false =>
            go_wp2
            go_quiet (fail)
            go_wp2
            refine bodyPost_ret (v := .tuple #[.slice none 0 0, .iface 53 (.agg #[.int .i64 (k : Int), .iface 92 (.pointer (some a0))])]) (by simp [results, Tryd.results10, go_sem]) rfl ?_
            refine ⟨by repeat (first | exact below_alloc HBW.out _ | refine pw_below_drewN ?_ _), .inr (.inl ⟨HO.out, fun h => ?_, k, rfl⟩)⟩
            have := h k hk
            rw [HX.out, HBV.out] at this
            rcases this with h | h
            · exact HE.out h
            · cases h
      · have hkn : k = ls.length := by have := HK.out; omega
        have hkI : ¬ (k : Int) < (ls.length : Int) := by omega
        have HST : Aside0 (Stand ls) := ⟨fun i hi => HD.out i (by omega)⟩
        obtain ⟨vm, wm, hmk, HV, hbm⟩ := make_words wr ls.length HL.out
        have HV1 : Aside0 ((Kd.int .u32).R 22 wm w1.heap.size (fun _ => True) vm (wordsL ls 0)) := ⟨Kd.R_lower HV HB.out.size⟩
        have HBM : Aside0 (Below w1.heap.size w1 wm) := ⟨HB.out.trans (hbm.mono HB.out.size)⟩
        clear HV hbm
        go_wp2
        clear hmk
        go_loopw [10, 55] (fun v10 v55 wx => ∃ j : Nat, v55 = .int .i64 j ∧ Aside0 (j ≤ ls.length) ∧ Aside0 (∀ i, i < j → (lineW ls i).2 = 0) ∧ Aside0 (Below w1.heap.size w1 wx) ∧ Aside0 ((Kd.int .u32).R 22 wx w1.heap.size (fun _ => True) v10 (wordsL ls j))) (fun _ v55 _ => ls.length - (intOf v55).toNat)
        case atStart => exact ⟨0, rfl, ⟨Nat.zero_le _⟩, ⟨fun i hi => absurd hi (Nat.not_lt_zero _)⟩, HBM, HV1⟩
        case round =>
          clear HBM HV1 HD HK hkn hkI HB HBW
          try clear hk
          obtain ⟨j, rfl, HJ, HD, HB, HV⟩ := hrel
          have HBW : Aside0 (Below w.heap.size w wr) := ⟨HB1.out.trans (HB.out.mono HB1.out.size)⟩
          by_cases hj : j < ls.length
          · have hjI : (j : Int) < (ls.length : Int) := by omega
            obtain ⟨ad, rfl, f0, f1, f2, f3, f4, f5, f6⟩ := at_T33 (Kd.C_below HR.out HBW.out) (j : Int) (by omega) hjI
            obtain ⟨x, hx⟩ : ∃ x, rd_T33 ls (j : Int) = x := ⟨_, rfl⟩
            rw [hx] at f0 f1 f2 f3 f4 f5 f6
            rw [Int.toNat_natCast] at f0 f1 f2 f3 f4 f5 f6
            have hx' : ls.getD j z33 = x := by rw [← hx]; unfold rd_T33; rw [Int.toNat_natCast]
            have HX := Aside0.mk hx'
            clear hx hx'
            have HXW : Aside0 x.Wf := ⟨by rw [← HX.out]; exact wf_at HWF.out j⟩
            have hlen := HL.out
            have hwk : wrap64 ((j : Int) + 1) = ((j + 1 : Nat) : Int) := by unfold wrap64; omega
            by_cases he : x.aim = ⟨#[]⟩
            · have ee : x.aim.toList.isEmpty = true := by rw [empty_is, he]; rfl
              have hlw : lineW ls j = putS x.ins.op x.ins.rd x.ins.rs1 x.ins.rs2 x.ins.imm := by unfold lineW; simp only [HX.out, if_pos he]
              have HLW := Aside0.mk hlw
              clear he hlw
              go_wp2_with fail
              refine (put_calls x.ins.op x.ins.rd x.ins.rs1 x.ins.rs2 x.ins.imm HXW.out.1 HXW.out.2.1 HXW.out.2.2.1 HXW.out.2.2.2.1 HXW.out.2.2.2.2.1 _).mono ?_
              intro e w3 h3; obtain ⟨h3, hb3⟩ := h3; subst h3
              have HB3 : Aside0 (Below wr.heap.size wr w3) := ⟨Below.trans ((Below.refl _ _).alloc (Nat.le_refl _) _) (hb3.mono (by simp))⟩
              have HV3 : Aside0 ((Kd.int .u32).R 22 w3 w1.heap.size (fun _ => True) u10 (wordsL ls j)) := ⟨Kd.R_below HV.out HB3.out⟩
              have HB4 : Aside0 (Below w1.heap.size w1 w3) := ⟨HB.out.trans (HB3.out.mono HB.out.size)⟩
              clear hb3
              obtain ⟨wd, er, hp⟩ : ∃ a b, putS x.ins.op x.ins.rd x.ins.rs1 x.ins.rs2 x.ins.imm = (a, b) := ⟨_, _, rfl⟩
              rw [hp]
              have HP : Aside0 (lineW ls j = (wd, er)) := ⟨by rw [HLW.out, hp]⟩
              clear hp
              simp only [putV]
              by_cases her : er = 0
              · have er1 : (er != 0) = false := by rw [her]; rfl
                have HE0 := Aside0.mk her
                clear her
                go_wp2_with (first | ((with_reducible refine gate_builtin (b := .append) (xs := #[.tmp 103, .tmp 105]) rfl ?_); at_builtin; refine Kd.R_append (Kd.int .u32) (w0 := w1) w1.heap.size rfl (.tmp 103) (.tmp 105) 25 22 (.int .u32 0) 4 rfl Tryd.underlying25 info22 rfl (by decide) (by omega) u10 (wordsL ls j) wd [.int .u32 wd] (fun _ => True) (fun _ => False) rfl rfl ?aP (fun _ hk => hk.elim) ?aF ?aO ?aB ?aS ?aL ?_; (case aP => exact rfl); (case aB => exact HB4.out); (case aF => exact (fun _ _ => trivial)); (case aO => exact HV3.out); (case aS => exact HB4.out.size); (case aL => rw [words_len]; omega); intro v106 w7 ho hb hg hat; have HO7 := Aside0.mk ho; have HB7 := Aside0.mk hb; clear ho hb hg hat))
                refine ⟨⟨j + 1, by first | rfl | (simp; done) | (rw [hwk]; done), ⟨hj⟩, ⟨fun i hi => ?_⟩, HB7, ⟨by rw [words_succ, HP.out]; exact HO7.out⟩⟩, by simp only [intOf]; omega⟩
                rcases Nat.lt_succ_iff_lt_or_eq.1 hi with h | h
                · exact HD.out i h
                · subst h; rw [HP.out]; exact HE0.out
              · have er1 : (er != 0) = true := by simpa using her
                have HE0 := Aside0.mk her
                clear her
                go_wp2
                refine bodyPost_ret (v := .tuple #[.slice none 0 0, .iface 53 (.agg #[.int .i64 (j : Int), .iface 26 (.int .i64 er)])]) (by simp [results, Tryd.results10, go_sem]) rfl ?_
                refine ⟨HB1.out.trans (HB4.out.mono HB1.out.size), .inr (.inr (.inl ⟨HO.out, HST.out, fun h => HE0.out ?_, j, er, rfl⟩))⟩
                have := h j hj
                rw [HP.out] at this
                exact this
            · have ee : x.aim.toList.isEmpty = false := by rw [empty_is]; exact decide_eq_false he
              have HE := Aside0.mk he
              clear he
              obtain ⟨n, hn⟩ : ∃ n, idx ls x.aim = n := ⟨_, rfl⟩
              have hl : ∀ o, (Instr.lookup 48 (.map (some b)) (.string x.aim) false).run Tryd.prog (wr.alloc o) = .ok (.int .i64 n) (wr.alloc o) := fun o => by
                rw [look_in ((HM.out.below HB.out).alloc o) HXW.out.2.2.2.2.2.2, ← hn]; rfl
              have HN := Aside0.mk hn
              clear hn
              obtain ⟨lb, hlb⟩ : ∃ l, leadsB x.ins.op = l := ⟨_, rfl⟩
              have LC : ∀ w, Calls Tryd.prog 14 #[.int .u8 x.ins.op] w fun e w' => e = .returned (.bool lb) ∧ Drawn0 w w' := fun w => by rw [← hlb]; exact leads_calls _ _
              have HLB := Aside0.mk hlb
              have HLC := Aside0.mk LC
              clear LC hlb
              go_wp2_with fail
              refine (HLC.out _).mono ?_
              intro e w2 h2; obtain ⟨h2, ⟨nq, rfl⟩⟩ := h2; subst h2
              generalize hfr : wrap64 (4 * wrap64 (n - (j : Int))) = fr
              have HFR : Aside0 (far ls j x.aim = fr) := ⟨by unfold far; rw [HN.out]; exact hfr⟩
              clear hfr
              cases lb with
              | false =>
                have hlw : (lineW ls j).2 = 2 := by
                  unfold lineW; simp only [HX.out, if_neg HE.out, HLB.out, Bool.false_and]; rfl
                have HLW := Aside0.mk hlw
                clear hlw
                go_wp2
                refine bodyPost_ret (v := .tuple #[.slice none 0 0, .iface 53 (.agg #[.int .i64 (j : Int), .iface 26 (.int .i64 2)])]) (by simp [results, Tryd.results10, go_sem]) rfl ?_
                refine ⟨by repeat (first | exact below_alloc HBW.out _ | refine pw_below_drewN ?_ _), .inr (.inr (.inl ⟨HO.out, HST.out, fun h => ?_, j, 2, rfl⟩))⟩
                have := h j hj
                rw [HLW.out] at this
                exact absurd this (by decide)
              | true =>
                by_cases hfit : wrap64 (wrap32 fr) = fr
                · have hf1 : (wrap64 (wrap32 fr) != fr) = false := by simpa using hfit
                  have hlw : lineW ls j = putS x.ins.op x.ins.rd x.ins.rs1 x.ins.rs2 (wrap32 fr) := by
                    unfold lineW; simp only [HX.out, if_neg HE.out, HLB.out, HFR.out, hfit, Bool.true_and, beq_self_eq_true, if_true]
                  have HLW := Aside0.mk hlw
                  clear hlw hfit
                  go_wp2_with fail
                  refine (put_calls x.ins.op x.ins.rd x.ins.rs1 x.ins.rs2 (wrap32 fr) HXW.out.1 HXW.out.2.1 HXW.out.2.2.1 HXW.out.2.2.2.1 (wrap32_in fr) _).mono ?_
                  intro e w3 h3; obtain ⟨h3, hb3⟩ := h3; subst h3
                  have HB3 : Aside0 (Below wr.heap.size wr w3) := ⟨Below.trans ((((Below.refl _ _).alloc (Nat.le_refl _) _) |> fun h => pw_below_drewN h nq).setCell (Nat.le_refl _) _) (hb3.mono (by simp))⟩
                  have HV3 : Aside0 ((Kd.int .u32).R 22 w3 w1.heap.size (fun _ => True) u10 (wordsL ls j)) := ⟨Kd.R_below HV.out HB3.out⟩
                  have HB4 : Aside0 (Below w1.heap.size w1 w3) := ⟨HB.out.trans (HB3.out.mono HB.out.size)⟩
                  clear hb3
                  obtain ⟨wd, er, hp⟩ : ∃ a b, putS x.ins.op x.ins.rd x.ins.rs1 x.ins.rs2 (wrap32 fr) = (a, b) := ⟨_, _, rfl⟩
                  rw [hp]
                  have HP : Aside0 (lineW ls j = (wd, er)) := ⟨by rw [HLW.out, hp]⟩
                  clear hp
                  simp only [putV]
                  by_cases her : er = 0
                  · have er1 : (er != 0) = false := by rw [her]; rfl
                    have HE0 := Aside0.mk her
                    clear her
                    go_wp2_with (first | ((with_reducible refine gate_builtin (b := .append) (xs := #[.tmp 103, .tmp 105]) rfl ?_); at_builtin; refine Kd.R_append (Kd.int .u32) (w0 := w1) w1.heap.size rfl (.tmp 103) (.tmp 105) 25 22 (.int .u32 0) 4 rfl Tryd.underlying25 info22 rfl (by decide) (by omega) u10 (wordsL ls j) wd [.int .u32 wd] (fun _ => True) (fun _ => False) rfl rfl ?aP (fun _ hk => hk.elim) ?aF ?aO ?aB ?aS ?aL ?_; (case aP => exact rfl); (case aB => exact HB4.out); (case aF => exact (fun _ _ => trivial)); (case aO => exact HV3.out); (case aS => exact HB4.out.size); (case aL => rw [words_len]; omega); intro v106 w7 ho hb hg hat; have HO7 := Aside0.mk ho; have HB7 := Aside0.mk hb; clear ho hb hg hat))
                    refine ⟨⟨j + 1, by first | rfl | (simp; done) | (rw [hwk]; done), ⟨hj⟩, ⟨fun i hi => ?_⟩, HB7, ⟨by rw [words_succ, HP.out]; exact HO7.out⟩⟩, by simp only [intOf]; omega⟩
                    rcases Nat.lt_succ_iff_lt_or_eq.1 hi with h | h
                    · exact HD.out i h
                    · subst h; rw [HP.out]; exact HE0.out
                  · have er1 : (er != 0) = true := by simpa using her
                    have HE0 := Aside0.mk her
                    clear her
                    go_wp2
                    refine bodyPost_ret (v := .tuple #[.slice none 0 0, .iface 53 (.agg #[.int .i64 (j : Int), .iface 26 (.int .i64 er)])]) (by simp [results, Tryd.results10, go_sem]) rfl ?_
                    refine ⟨HB1.out.trans (HB4.out.mono HB1.out.size), .inr (.inr (.inl ⟨HO.out, HST.out, fun h => HE0.out ?_, j, er, rfl⟩))⟩
                    have := h j hj
                    rw [HP.out] at this
                    exact this
                · have hf1 : (wrap64 (wrap32 fr) != fr) = true := by simpa using hfit
                  have hlw : (lineW ls j).2 = 2 := by
                    have h2 : (wrap64 (wrap32 fr) == fr) = false := by simpa using hfit
                    unfold lineW; simp only [HX.out, if_neg HE.out, HLB.out, HFR.out, h2, Bool.and_false]; rfl
                  have HLW := Aside0.mk hlw
                  clear hlw hfit
                  go_wp2
                  refine bodyPost_ret (v := .tuple #[.slice none 0 0, .iface 53 (.agg #[.int .i64 (j : Int), .iface 26 (.int .i64 2)])]) (by simp [results, Tryd.results10, go_sem]) rfl ?_
                  refine ⟨by repeat (first | exact below_alloc HBW.out _ | refine pw_below_drewN ?_ _), .inr (.inr (.inl ⟨HO.out, HST.out, fun h => ?_, j, 2, rfl⟩))⟩
                  have := h j hj
                  rw [HLW.out] at this
                  exact absurd this (by decide)
          · have hjn : j = ls.length := by have := HJ.out; omega
            have hjI : ¬ (j : Int) < (ls.length : Int) := by omega
            go_wp2
            refine bodyPost_ret (v := .tuple #[u10, .nilIface]) (by simp [results, Tryd.results10, go_sem]) rfl ?_
            subst hjn
            exact ⟨HBW.out, .inr (.inr (.inr ⟨HO.out, HST.out, HD.out, _, rfl, Kd.R_lower HV.out HB1.out.size⟩))⟩
  · subst he
    have HO := Aside0.mk honce
    clear honce
    go_wp2
    refine bodyPost_ret (v := .tuple #[.slice none 0 0, .iface 53 (.agg #[.int .i64 (i : Int), .iface 92 (.pointer (some a1))])]) (by simp [results, Tryd.results10, go_sem]) rfl ?_
    exact ⟨HB1.out, .inl ⟨HO.out, i, rfl⟩⟩
end Go.Proofs.YtchkjfokoenlnaaDoor.Lin
