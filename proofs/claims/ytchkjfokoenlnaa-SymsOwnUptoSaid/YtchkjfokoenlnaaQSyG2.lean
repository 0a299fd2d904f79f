/- syms.gather by contract: syms.gather's loops by contract: the entries of all symbols, in their order (before they are sorted). -/
import Derived.Test.YtchkjfokoenlnaaQSySrt
import Derived.Test.YtchkjfokoenlnaaQSyx11
import Derived.Deep.QuietTactic
import Derived.BigQuiet
import Derived.Deep.DeepCutAuto
import Derived.Deep.CutRange
import Derived.Deep.RegionHeld3
import Derived.StillTailTactics
import Derived.Laws.EntriesVeiled
import Derived.Outline
import Derived.Deep.Light
namespace Go.Proofs.Ytchkjfokoenlnaa.Sym
open Go.RowKit Go.Maps Go.WideMaps Go.Proofs.YtchkjfokoenlnaaW.PrintWords Go.Proofs.YtchkjfokoenlnaaW.PrintLast Go.Proofs.Ytchkjfokoenlnaa.QSy
set_option linter.unusedVariables false
set_option linter.unusedSimpArgs false
set_option maxRecDepth 100000 in
set_option maxHeartbeats 16000000 in
theorem gather_walk (A : Option Addr) (c : Nat) (ls : List S44) (hc : ls.length ≤ c) (hn : cnt ls ≤ 400) (hno : NamesOk ls) (w : World) (hr : Kd.C k44 w A ls.length ls) :
    Calls Try.prog 19 #[.slice A ls.length c] w fun e w' => ∃ v ps', e = .returned v ∧ Blks w w' (sortE (gObjs ls ls.length)) ps' ∧ kptr.R 60 w' w.heap.size (fun _ => True) v ps' ∧ Below w.heap.size w w' := by
  have HSRT : Aside0 (∀ (w1 : World) (v : Value) (es : List Ent) (ps : List Nat), Keep w w1 v es ps → Uniq es → es.length ≤ 400 → Calls Try.prog 34 #[v, .func (.func 35) #[] #[]] w1 fun e w' => e = .returned (.tuple #[]) ∧ ∃ ps', Blks w w' (sortE es) ps' ∧ kptr.R 60 w' w.heap.size (fun _ => True) v ps' ∧ Below w.heap.size w w') := ⟨fun w1 v es ps h1 h2 h3 => sort_calls w w1 v es ps h1 h2 h3⟩
  have HR := Aside0.mk hr
  have HC := Aside0.mk hc
  have HN := Aside0.mk hn
  have HNO := Aside0.mk hno
  clear hr hc hn hno
  have hmm := @run_makeMap Try.prog
  go_enter Try.func19, Try.ntmps19
  go_wp2
  go_loopw [4, 14] (fun v4 v14 wr => ∃ i : Nat, v14 = .int .i64 i ∧ Aside0 (i ≤ ls.length) ∧ ∃ ps, Aside0 (Keep w wr v4 (gObjs ls i) ps)) (fun _ v14 _ => ls.length - (intOf v14).toNat)
  case atStart => exact ⟨0, rfl, ⟨Nat.zero_le _⟩, [], ⟨⟨(Below.refl _ _).alloc (Nat.le_refl _) _, MapG.made _, ⟨rfl, List.nodup_nil, fun j e p h => by simp [gObjs] at h⟩, Kd.R_nil _ _ _ _ _⟩⟩⟩
  case round =>
    obtain ⟨i, rfl, HI, ps0, HK0⟩ := hrel
    by_cases hi : i < ls.length
    · have hiI : (i : Int) < (ls.length : Int) := by omega
      obtain ⟨ad, A1, c1, A2, c2, A3, c3, rfl, f0, f1, f2, f3, l1, C1, l2, C2, l3, C3⟩ := at_T44 HR.out (i : Int) (by omega) hiI
      obtain ⟨x, hx⟩ : ∃ x, rd_T44 ls (i : Int) = x := ⟨_, rfl⟩
      rw [hx] at f0 f1 f2 f3 l1 C1 l2 C2 l3 C3
      rw [Int.toNat_natCast] at f0 f1 f2 f3
      have hx' : ls.getD i z44 = x := by rw [← hx]; unfold rd_T44; rw [Int.toNat_natCast]
      have HX := Aside0.mk hx'
      have HC2 := Aside0.mk C2
      have hlen : ls.length ≤ 9223372036854775807 := HR.out.2.1
      have hwi : wrap64 ((i : Int) + 1) = ((i + 1 : Nat) : Int) := by unfold wrap64; omega
      replace f0 := pw_cell_below HK0.out.below f0
      replace f1 := pw_cell_below HK0.out.below f1
      replace f2 := pw_cell_below HK0.out.below f2
      replace f3 := pw_cell_below HK0.out.below f3
      clear hx hx' C1 C2 C3 l1 l2 l3
      go_wp2
      obtain ⟨wo, rfl⟩ : ∃ wo : World, wo = wr := ⟨_, rfl⟩
      have HK1 : Aside0 (Keep w (wo.alloc (Obj.cells #[Value.string x.f0, Value.slice A1 x.f1.f0.length c1, Value.slice A2 x.f1.f1.length c2, Value.slice A3 x.f1.f2.length c3] 44)) u4 (gObjs ls i) ps0) := ⟨HK0.out.alloc _⟩
      clear f0 f1 f2 f3 HK0
      go_loopw [4, 23] (fun v4 v23 wx => ∃ k : Nat, v23 = .int .i64 k ∧ Aside0 (k ≤ x.f1.f1.length) ∧ ∃ ps, Aside0 (Keep w wx v4 (gSyms (gObjs ls i) i x.f1.f1 k) ps) ) (fun _ v23 _ => x.f1.f1.length - (intOf v23).toNat)
      case atStart => exact ⟨0, rfl, ⟨Nat.zero_le _⟩, ps0, HK1⟩
      case round =>
        clear HK1
        obtain ⟨k, rfl, HKK, ps, HK⟩ := hrel
        by_cases hk : k < x.f1.f1.length
        · have hkI : (k : Int) < (x.f1.f1.length : Int) := by omega
          obtain ⟨ad2, rfl, f0, f1, f2, f3, f4, f5, f6⟩ := at_T47 (Kd.C_below HC2.out HK.out.below) (k : Int) (by omega) hkI
          obtain ⟨y, hy⟩ : ∃ y, rd_T47 x.f1.f1 (k : Int) = y := ⟨_, rfl⟩
          rw [hy] at f0 f1 f2 f3 f4 f5 f6
          rw [Int.toNat_natCast] at f0 f1 f2 f3 f4 f5 f6
          have hy' : x.f1.f1.getD k z47 = y := by rw [← hy]; unfold rd_T47; rw [Int.toNat_natCast]
          have HY := Aside0.mk hy'
          have hlen2 : x.f1.f1.length ≤ 9223372036854775807 := HC2.out.2.1
          have hwk : wrap64 ((k : Int) + 1) = ((k + 1 : Nat) : Int) := by unfold wrap64; omega
          clear hy hy'
          by_cases hb : y.f3 = 0
          · have hb1 : (y.f3 == 0) = true := by simpa using hb
            have HBZ := Aside0.mk hb
            clear hb
            go_wp2
            refine ⟨⟨k + 1, by first | rfl | (simp; done) | (rw [hwk]; done), ⟨hk⟩, ps, ⟨?_⟩⟩, by simp only [intOf]; omega⟩
            simp only [gSyms, HY.out, gstep, HBZ.out, if_true]
            exact HK.out.alloc _
          · have hb1 : (y.f3 == 0) = false := by simpa using hb
            have HBZ := Aside0.mk hb
            clear hb
            have hns : y.f0.size ≤ maxLen := by have := HNO.out i k; rw [HX.out, HY.out] at this; exact this
            obtain ⟨o, ho⟩ : ∃ o, lookP (gSyms (gObjs ls i) i x.f1.f1 k) ps y.f0 = o := ⟨_, rfl⟩
            have hl : ∀ ob, (Instr.lookup 91 (.map (some w.heap.size)) (.string y.f0) false).run Try.prog (wr.alloc ob) = .ok (ptrV o) (wr.alloc ob) := fun ob => by
              rw [(HK.out.alloc ob).map.look hns, ho]
            cases o with
            | some p =>
              simp only [ptrV] at hl
              obtain ⟨j, e, hj, hp, hne, _⟩ := lookP_some ho
              obtain ⟨en, eo, es, ew, er, et, ewt⟩ := e
              have HJ := Aside0.mk hj
              have HPJ := Aside0.mk hp
              have HNE := Aside0.mk hne
              have HP : Aside0 (w.heap.size ≤ p) := ⟨(HK.out.blks.2.2 j _ p hj hp).1⟩
              clear hj hp hne ho
              go_wp2_with fail
              refine (syms_rank.calls y.f0 y.f1 y.f2 y.f3 y.f4 y.f5 y.f6 (rankOf y) _ (rank_f y)).mono ?_
              intro e w2 h2
              obtain ⟨h2, hb2⟩ := h2
              subst h2
              have HK2 : Aside0 (Keep w w2 u4 (gSyms (gObjs ls i) i x.f1.f1 k) ps) := ⟨(HK.out.alloc _).lower hb2⟩
              have hs8 := old_at (new_at _ _) hb2
              have hbk2 : w2.heap[p]? = some (.cells (ar7 en eo es ew er et ewt) 62 (0, 0)) := (HK2.out.blks.2.2 j _ p HJ.out HPJ.out).2
              obtain ⟨r, hrk⟩ : ∃ r, rankOf y = r := ⟨_, rfl⟩
              rw [hrk]
              have HRK := Aside0.mk hrk
              clear hl hb2 hrk HK
              have HBK2 := Aside0.mk hbk2
              have hfz := frozen_of hbk2
              obtain ⟨q0, q1, q2, q3, q4, q5, q6⟩ := cells7 hbk2
              clear hbk2
              have HS8 := Aside0.mk hs8
              obtain ⟨_, _, _, p3, _, _, _⟩ := cells7 hs8
              clear hs8
              go_upto_region 16 with fail
              go_cut [5, 7, 8, 9, 10, 23] (fun s5 s7 s8 s9 s10 s23 wx => s5 = .int .i64 i ∧ s7 = .int .i64 k ∧ s8 = .pointer (some ⟨wr.heap.size, 0, none⟩) ∧ s9 = .pointer (some ⟨p, 0, none⟩) ∧ s10 = .int .i64 r ∧ s23 = .int .i64 k ∧ Aside0 (wx.heap[p]? = some (.cells (ar7 en eo es ew er et (ewt || (r == 0 && y.f3 == 1))) 62 (0, 0))) ∧ Aside0 (KeepBut w2 wx p none) ∧ Aside0 (Below w.heap.size w wx))
              case first =>
                cases ewt with
                | true =>
                  go_wp2
                  go_meet
                  exact ⟨rfl, rfl, rfl, rfl, rfl, rfl, ⟨blk_put HBK2.out 6 _ rfl⟩, ⟨(KeepBut.refl _ _ _).set_ 6 _⟩, ⟨below_set HK2.out.below HP.out⟩⟩
                | false =>
                  by_cases h0 : r = 0
                  · have h0b : (r == 0) = true := by simpa using h0
                    clear h0
                    go_wp2
                    go_meet
                    exact ⟨rfl, rfl, rfl, rfl, rfl, rfl, ⟨blk_put HBK2.out 6 _ (by rw [h0b]; rfl)⟩, ⟨(KeepBut.refl _ _ _).set_ 6 _⟩, ⟨below_set HK2.out.below HP.out⟩⟩
                  · have h0b : (r == 0) = false := by simpa using h0
                    clear h0
                    go_wp2
                    go_meet
                    exact ⟨rfl, rfl, rfl, rfl, rfl, rfl, ⟨blk_put HBK2.out 6 _ (by rw [h0b]; rfl)⟩, ⟨(KeepBut.refl _ _ _).set_ 6 _⟩, ⟨below_set HK2.out.below HP.out⟩⟩
              case rest =>
                clear q0 q1 q2 q3 q4 q5 q6 hfz p3
                obtain ⟨rfl, rfl, rfl, rfl, rfl, rfl, HB3, HKB3, HW3⟩ := hcut
                obtain ⟨wt, hwt⟩ : ∃ b, (ewt || (r == 0 && y.f3 == 1)) = b := ⟨_, rfl⟩
                rw [hwt] at HB3
                have HWT := Aside0.mk hwt
                clear hwt
                have hfz := frozen_of HB3.out
                obtain ⟨q0, q1, q2, q3, q4, q5, q6⟩ := cells7 HB3.out
                go_upto_region 17 with fail
                go_cut [5, 7, 8, 9, 10, 23] (fun s5 s7 s8 s9 s10 s23 wx => s5 = .int .i64 i ∧ s7 = .int .i64 k ∧ s8 = .pointer (some ⟨wr.heap.size, 0, none⟩) ∧ s9 = .pointer (some ⟨p, 0, none⟩) ∧ s10 = .int .i64 r ∧ s23 = .int .i64 k ∧ Aside0 (wx.heap[p]? = some (.cells (ar7 en eo es ew er (et || (r == 3 && er == 3)) wt) 62 (0, 0))) ∧ Aside0 (KeepBut w2 wx p none) ∧ Aside0 (Below w.heap.size w wx))
                case first =>
                  cases et with
                  | true =>
                    go_wp2
                    go_meet
                    exact ⟨rfl, rfl, rfl, rfl, rfl, rfl, ⟨blk_put HB3.out 5 _ rfl⟩, ⟨HKB3.out.set_ 5 _⟩, ⟨below_set HW3.out HP.out⟩⟩
                  | false =>
                    by_cases h0 : r = 3
                    · have h0b : (r == 3) = true := by simpa using h0
                      clear h0
                      go_wp2
                      go_meet
                      exact ⟨rfl, rfl, rfl, rfl, rfl, rfl, ⟨blk_put HB3.out 5 _ (by rw [h0b]; rfl)⟩, ⟨HKB3.out.set_ 5 _⟩, ⟨below_set HW3.out HP.out⟩⟩
                    · have h0b : (r == 3) = false := by simpa using h0
                      clear h0
                      go_wp2
                      go_meet
                      exact ⟨rfl, rfl, rfl, rfl, rfl, rfl, ⟨blk_put HB3.out 5 _ (by rw [h0b]; rfl)⟩, ⟨HKB3.out.set_ 5 _⟩, ⟨below_set HW3.out HP.out⟩⟩
                case rest =>
                  clear q0 q1 q2 q3 q4 q5 q6 hfz HB3 HKB3 HW3
                  obtain ⟨rfl, rfl, rfl, rfl, rfl, rfl, HB3, HKB3, HW3⟩ := hcut
                  obtain ⟨tw, htw⟩ : ∃ b, (et || (r == 3 && er == 3)) = b := ⟨_, rfl⟩
                  rw [htw] at HB3
                  have HTW := Aside0.mk htw
                  clear htw
                  have hfz := frozen_of HB3.out
                  obtain ⟨q0, q1, q2, q3, q4, q5, q6⟩ := cells7 HB3.out
                  have HE : Aside0 (upd ⟨en, eo, es, ew, er, et, ewt⟩ (i : Int) (k : Int) y = if er < r then ⟨en, (i : Int), (k : Int), -1, r, tw, wt⟩ else ⟨en, eo, es, ew, er, tw, wt⟩) := ⟨by
                    unfold upd
                    simp only [HRK.out, HWT.out, HTW.out]⟩
                  have HFIN : Aside0 (∀ (w' : World) (e' : Ent), upd ⟨en, eo, es, ew, er, et, ewt⟩ (i : Int) (k : Int) y = e' → KeepBut w2 w' p none → w'.heap[p]? = some (.cells (encE e').toArray 62 (0, 0)) → Below w.heap.size w w' → Keep w w' u4 (gSyms (gObjs ls i) i x.f1.f1 (k + 1)) ps) := ⟨fun w' e' he hk hb hbel => by
                    subst he
                    simp only [gSyms, HY.out, gstep, HBZ.out, if_false]
                    rw [if_pos (hasE_iff.2 ⟨_, List.mem_of_getElem? HJ.out, HNE.out⟩), updAll_set (gSyms_uniq (gObjs_uniq ls i) i x.f1.f1 k) HJ.out HNE.out]
                    exact HK2.out.set_ HJ.out HPJ.out (upd_name ..) hk hb hbel⟩
                  by_cases hgt : er < r
                  · have HGT := Aside0.mk hgt
                    go_wp2
                    refine ⟨⟨k + 1, by first | rfl | (simp; done) | (rw [hwk]; done), ⟨hk⟩, ps, ⟨HFIN.out _ _ (by rw [HE.out, if_pos HGT.out]) ?_ ?_ ?_⟩⟩, by simp only [intOf]; omega⟩
                    · exact (((HKB3.out.set_ 4 _).set_ 1 _).set_ 2 _).set_ 3 _
                    · exact blk_put (blk_put (blk_put (blk_put HB3.out 4 _ rfl) 1 _ rfl) 2 _ rfl) 3 _ rfl
                    · exact below_set (below_set (below_set (below_set HW3.out HP.out) HP.out) HP.out) HP.out
                  · have HGT := Aside0.mk hgt
                    go_wp2
                    refine ⟨⟨k + 1, by first | rfl | (simp; done) | (rw [hwk]; done), ⟨hk⟩, ps, ⟨HFIN.out _ _ (by rw [HE.out, if_neg HGT.out]) ?_ ?_ ?_⟩⟩, by simp only [intOf]; omega⟩
                    · exact HKB3.out
                    · exact HB3.out
                    · exact HW3.out
            | none =>
              simp only [ptrV] at hl
              have HO := Aside0.mk ho
              clear ho
              go_upto_region 12 with fail
              clear hl
              go_cut [5, 7, 8, 9, 23] (fun s5 s7 s8 s9 s23 wx => s5 = .int .i64 i ∧ s7 = .int .i64 k ∧ s8 = .pointer (some ⟨wr.heap.size, 0, none⟩) ∧ s23 = .int .i64 k ∧ ∃ pb : Nat, s9 = .pointer (some ⟨pb, 0, none⟩) ∧ Aside0 (wx.heap[pb]? = some (.cells (encE (freshE y.f0)).toArray 62 (0, 0))) ∧ Aside0 (wr.heap.size < pb) ∧ Aside0 (wx.heap[wr.heap.size]? = some (Obj.cells #[Value.string y.f0, Value.int IntKind.u32 y.f1, Value.int IntKind.u32 y.f2, Value.int IntKind.u8 y.f3, Value.int IntKind.u8 y.f4, Value.bool y.f5, Value.int IntKind.i64 y.f6] 47 (0, 0))) ∧ Aside0 (Keep w wx u4 (gSyms (gObjs ls i) i x.f1.f1 k) ps))
              case first =>
                go_region_with ((go_at_call 32; refine (nobody_exact _).mono ?_; rintro e w' ⟨rfl, rfl⟩))
                all_goals
                  go_wp2_with fail
                  go_meet
                  refine ⟨rfl, rfl, rfl, rfl, wr.heap.size + 1 + 1, rfl, ⟨new_is (by simp)⟩, ⟨by omega⟩, ⟨old_at (new_at wr _) ?_⟩, ⟨HK.out.lower ?_⟩⟩ <;> repeat (first | exact Below.refl _ _ | refine below_alloc ?_ _ | refine below_drew ?_ | refine pw_below_drewN ?_ _)
              case rest =>
                obtain ⟨rfl, rfl, rfl, rfl, pb, rfl, HBP, HPL, HS8, HKC⟩ := hcut
                have hel : (gSyms (gObjs ls i) i x.f1.f1 k).length ≤ 400 := Nat.le_trans (by have := @at_le ls i k hi (by rw [HX.out]; omega); rw [HX.out] at this; exact this) HN.out
                have HEL := Aside0.mk hel
                obtain ⟨w3, hst, hm3, ht3⟩ := HKC.out.map.store HKC.out.blks.1 (freshE y.f0) pb hns (by unfold maxLen; omega) (HO.out)
                replace hst : (Instr.mapUpdate 91 (.map (some w.heap.size)) (.string y.f0) (.pointer (some ⟨pb, 0, none⟩))).run Try.prog wc = .ok () w3 := hst
                have HM3 := Aside0.mk hm3
                have HT3 := Aside0.mk ht3
                have hr3 := HKC.out.row_turned ht3
                have HR3 := Aside0.mk hr3
                have HB3 : Aside0 (Below w.heap.size w w3) := ⟨pw_below_grown HKC.out.below _ HKC.out.below.size ht3.grown (fun q hq => by cases hq; exact Nat.le_refl _)⟩
                have hs9 : w3.heap[wr.heap.size]? = some (Obj.cells #[Value.string y.f0, Value.int IntKind.u32 y.f1, Value.int IntKind.u32 y.f2, Value.int IntKind.u8 y.f3, Value.int IntKind.u8 y.f4, Value.bool y.f5, Value.int IntKind.i64 y.f6] 47 (0, 0)) := turned_cells ht3 HS8.out
                have HS9 := Aside0.mk hs9
                have hs8 := HS8.out
                obtain ⟨p0, p1, p2, p3, p4, p5, p6⟩ := cells7 hs8
                obtain ⟨r0, r1, r2, r3, r4, r5, r6⟩ := cells7 hs9
                clear hm3 ht3 hr3 hs9 hs8 hel
                go_wp2_with ((with_reducible refine gate_builtin (b := .append) (xs := #[.tmp 46, .tmp 48]) rfl ?_); at_builtin; refine Aside0.out ?_)
                refine Aside0.mk ?_
                clear hst p0 p1 p2 p3 p4 p5 p6 r0 r1 r2 r3 r4 r5 r6
                refine Kd.R_append kptr (w0 := w) w.heap.size rfl (.tmp 46) (.tmp 48) 57 60 (.pointer none) 8 rfl Try.underlying57 info60 rfl (by decide) (by omega) u4 ps pb _ (fun _ => True) (fun _ => False) rfl ?aX ?aP (fun _ hk => hk.elim) ?aF ?aO ?aB ?aS ?aL ?_
                case aX => simp [Act.eval]
                case aP => exact rfl
                case aF => exact (fun _ _ => trivial)
                case aO => exact HR3.out
                case aB => exact HB3.out
                case aS => exact HB3.out.size
                case aL => have := HKC.out.blks.1; have := HEL.out; omega
                intro v4 w7 ho7 hb7 hg7 hat7
                have HK7 : Aside0 (Keep w w7 v4 (gSyms (gObjs ls i) i x.f1.f1 k ++ [freshE y.f0]) (ps ++ [pb])) := ⟨HKC.out.added HM3.out HT3.out HBP.out (fun hm => by
                  obtain ⟨q, hq⟩ := List.getElem?_of_mem hm
                  have hlt : q < (gSyms (gObjs ls i) i x.f1.f1 k).length := by rw [← HK.out.blks.1]; exact (List.getElem?_eq_some_iff.1 hq).1
                  have := (Array.getElem?_eq_some_iff.1 (HK.out.blks.2.2 q _ pb (List.getElem?_eq_getElem hlt) hq).2).1
                  have := HPL.out
                  omega) (Nat.le_trans HK.out.below.size (Nat.le_of_lt HPL.out)) ho7 hb7 hg7⟩
                have hs7 : w7.heap[wr.heap.size]? = _ := (hg7.block _ (Array.getElem?_eq_some_iff.1 HS9.out).1 (Kd.R_ne HR3.out HS9.out (by decide))).trans HS9.out
                have HS7 := Aside0.mk hs7
                obtain ⟨p0, p1, p2, p3, p4, p5, p6⟩ := cells7 hs7
                clear ho7 hb7 hg7 hat7 hs7
                go_wp2_with fail
                clear p0 p1 p2 p3 p4 p5 p6
                refine (syms_rank.calls y.f0 y.f1 y.f2 y.f3 y.f4 y.f5 y.f6 (rankOf y) _ (rank_f y)).mono ?_
                intro e w2 h2
                obtain ⟨h2, hb2⟩ := h2
                subst h2
                have HK2 : Aside0 (Keep w w2 v4 (gSyms (gObjs ls i) i x.f1.f1 k ++ [freshE y.f0]) (ps ++ [pb])) := ⟨HK7.out.lower hb2⟩
                have hs8 := old_at HS7.out hb2
                obtain ⟨j, hjl⟩ : ∃ j, j = (gSyms (gObjs ls i) i x.f1.f1 k).length := ⟨_, rfl⟩
                obtain ⟨fe, hfe⟩ : ∃ fe, freshE y.f0 = fe := ⟨_, rfl⟩
                obtain ⟨en, eo, es, ew, er, et, ewt⟩ := fe
                have HJ : Aside0 ((gSyms (gObjs ls i) i x.f1.f1 k ++ [freshE y.f0])[j]? = some ⟨en, eo, es, ew, er, et, ewt⟩) := ⟨by rw [hjl, List.getElem?_append_right (Nat.le_refl _), Nat.sub_self, hfe]; rfl⟩
                have HPJ : Aside0 ((ps ++ [pb])[j]? = some pb) := ⟨by rw [hjl, ← HK.out.blks.1, List.getElem?_append_right (Nat.le_refl _), Nat.sub_self]; rfl⟩
                have HNE : Aside0 (en = y.f0) := ⟨(congrArg Ent.name hfe).symm⟩
                have HP : Aside0 (w.heap.size ≤ pb) := ⟨Nat.le_trans HK.out.below.size (Nat.le_of_lt HPL.out)⟩
                have hbk2 : w2.heap[pb]? = some (.cells (ar7 en eo es ew er et ewt) 62 (0, 0)) := (HK2.out.blks.2.2 j _ pb HJ.out HPJ.out).2
                obtain ⟨r, hrk⟩ : ∃ r, rankOf y = r := ⟨_, rfl⟩
                rw [hrk]
                have HRK := Aside0.mk hrk
                clear hb2 hrk hjl hfe
                have HBK2 := Aside0.mk hbk2
                have hfz := frozen_of hbk2
                obtain ⟨q0, q1, q2, q3, q4, q5, q6⟩ := cells7 hbk2
                clear hbk2
                have HS8 := Aside0.mk hs8
                obtain ⟨_, _, _, p3, _, _, _⟩ := cells7 hs8
                clear hs8
                go_upto_region 16 with fail
                go_cut [5, 7, 8, 9, 10, 23] (fun s5 s7 s8 s9 s10 s23 wx => s5 = .int .i64 i ∧ s7 = .int .i64 k ∧ s8 = .pointer (some ⟨wr.heap.size, 0, none⟩) ∧ s9 = .pointer (some ⟨pb, 0, none⟩) ∧ s10 = .int .i64 r ∧ s23 = .int .i64 k ∧ Aside0 (wx.heap[pb]? = some (.cells (ar7 en eo es ew er et (ewt || (r == 0 && y.f3 == 1))) 62 (0, 0))) ∧ Aside0 (KeepBut w2 wx pb none) ∧ Aside0 (Below w.heap.size w wx))
                case first =>
                  cases ewt with
                  | true =>
                    go_wp2
                    go_meet
                    exact ⟨rfl, rfl, rfl, rfl, rfl, rfl, ⟨blk_put HBK2.out 6 _ rfl⟩, ⟨(KeepBut.refl _ _ _).set_ 6 _⟩, ⟨below_set HK2.out.below HP.out⟩⟩
                  | false =>
                    by_cases h0 : r = 0
                    · have h0b : (r == 0) = true := by simpa using h0
                      clear h0
                      go_wp2
                      go_meet
                      exact ⟨rfl, rfl, rfl, rfl, rfl, rfl, ⟨blk_put HBK2.out 6 _ (by rw [h0b]; rfl)⟩, ⟨(KeepBut.refl _ _ _).set_ 6 _⟩, ⟨below_set HK2.out.below HP.out⟩⟩
                    · have h0b : (r == 0) = false := by simpa using h0
                      clear h0
                      go_wp2
                      go_meet
                      exact ⟨rfl, rfl, rfl, rfl, rfl, rfl, ⟨blk_put HBK2.out 6 _ (by rw [h0b]; rfl)⟩, ⟨(KeepBut.refl _ _ _).set_ 6 _⟩, ⟨below_set HK2.out.below HP.out⟩⟩
                case rest =>
                  clear q0 q1 q2 q3 q4 q5 q6 hfz p3
                  obtain ⟨rfl, rfl, rfl, rfl, rfl, rfl, HB3, HKB3, HW3⟩ := hcut
                  obtain ⟨wt, hwt⟩ : ∃ b, (ewt || (r == 0 && y.f3 == 1)) = b := ⟨_, rfl⟩
                  rw [hwt] at HB3
                  have HWT := Aside0.mk hwt
                  clear hwt
                  have hfz := frozen_of HB3.out
                  obtain ⟨q0, q1, q2, q3, q4, q5, q6⟩ := cells7 HB3.out
                  go_upto_region 17 with fail
                  go_cut [5, 7, 8, 9, 10, 23] (fun s5 s7 s8 s9 s10 s23 wx => s5 = .int .i64 i ∧ s7 = .int .i64 k ∧ s8 = .pointer (some ⟨wr.heap.size, 0, none⟩) ∧ s9 = .pointer (some ⟨pb, 0, none⟩) ∧ s10 = .int .i64 r ∧ s23 = .int .i64 k ∧ Aside0 (wx.heap[pb]? = some (.cells (ar7 en eo es ew er (et || (r == 3 && er == 3)) wt) 62 (0, 0))) ∧ Aside0 (KeepBut w2 wx pb none) ∧ Aside0 (Below w.heap.size w wx))
                  case first =>
                    cases et with
                    | true =>
                      go_wp2
                      go_meet
                      exact ⟨rfl, rfl, rfl, rfl, rfl, rfl, ⟨blk_put HB3.out 5 _ rfl⟩, ⟨HKB3.out.set_ 5 _⟩, ⟨below_set HW3.out HP.out⟩⟩
                    | false =>
                      by_cases h0 : r = 3
                      · have h0b : (r == 3) = true := by simpa using h0
                        clear h0
                        go_wp2
                        go_meet
                        exact ⟨rfl, rfl, rfl, rfl, rfl, rfl, ⟨blk_put HB3.out 5 _ (by rw [h0b]; rfl)⟩, ⟨HKB3.out.set_ 5 _⟩, ⟨below_set HW3.out HP.out⟩⟩
                      · have h0b : (r == 3) = false := by simpa using h0
                        clear h0
                        go_wp2
                        go_meet
                        exact ⟨rfl, rfl, rfl, rfl, rfl, rfl, ⟨blk_put HB3.out 5 _ (by rw [h0b]; rfl)⟩, ⟨HKB3.out.set_ 5 _⟩, ⟨below_set HW3.out HP.out⟩⟩
                  case rest =>
                    clear q0 q1 q2 q3 q4 q5 q6 hfz HB3 HKB3 HW3
                    obtain ⟨rfl, rfl, rfl, rfl, rfl, rfl, HB3, HKB3, HW3⟩ := hcut
                    obtain ⟨tw, htw⟩ : ∃ b, (et || (r == 3 && er == 3)) = b := ⟨_, rfl⟩
                    rw [htw] at HB3
                    have HTW := Aside0.mk htw
                    clear htw
                    have hfz := frozen_of HB3.out
                    obtain ⟨q0, q1, q2, q3, q4, q5, q6⟩ := cells7 HB3.out
                    have HE : Aside0 (upd ⟨en, eo, es, ew, er, et, ewt⟩ (i : Int) (k : Int) y = if er < r then ⟨en, (i : Int), (k : Int), -1, r, tw, wt⟩ else ⟨en, eo, es, ew, er, tw, wt⟩) := ⟨by
                      unfold upd
                      simp only [HRK.out, HWT.out, HTW.out]⟩
                    have HFIN : Aside0 (∀ (w' : World) (e' : Ent), upd ⟨en, eo, es, ew, er, et, ewt⟩ (i : Int) (k : Int) y = e' → KeepBut w2 w' pb none → w'.heap[pb]? = some (.cells (encE e').toArray 62 (0, 0)) → Below w.heap.size w w' → Keep w w' v4 (gSyms (gObjs ls i) i x.f1.f1 (k + 1)) (ps ++ [pb])) := ⟨fun w' e' he hk hb hbel => by
                      subst he
                      simp only [gSyms, HY.out, gstep, HBZ.out, if_false]
                      rw [if_neg (fun h => by obtain ⟨z, hz, hzn⟩ := hasE_iff.1 h; exact lookP_none HK.out.blks.1 HO.out z hz hzn), updAll_set (uniq_snoc (gSyms_uniq (gObjs_uniq ls i) i x.f1.f1 k) (e := freshE y.f0) (Bool.eq_false_iff.2 (fun h => by obtain ⟨z, hz, hzn⟩ := hasE_iff.1 h; exact lookP_none HK.out.blks.1 HO.out z hz hzn))) HJ.out HNE.out]
                      exact HK2.out.set_ HJ.out HPJ.out (upd_name ..) hk hb hbel⟩
                    by_cases hgt : er < r
                    · have HGT := Aside0.mk hgt
                      go_wp2
                      refine ⟨⟨k + 1, by first | rfl | (simp; done) | (rw [hwk]; done), ⟨hk⟩, (ps ++ [pb]), ⟨HFIN.out _ _ (by rw [HE.out, if_pos HGT.out]) ?_ ?_ ?_⟩⟩, by simp only [intOf]; omega⟩
                      · exact (((HKB3.out.set_ 4 _).set_ 1 _).set_ 2 _).set_ 3 _
                      · exact blk_put (blk_put (blk_put (blk_put HB3.out 4 _ rfl) 1 _ rfl) 2 _ rfl) 3 _ rfl
                      · exact below_set (below_set (below_set (below_set HW3.out HP.out) HP.out) HP.out) HP.out
                    · have HGT := Aside0.mk hgt
                      go_wp2
                      refine ⟨⟨k + 1, by first | rfl | (simp; done) | (rw [hwk]; done), ⟨hk⟩, (ps ++ [pb]), ⟨HFIN.out _ _ (by rw [HE.out, if_neg HGT.out]) ?_ ?_ ?_⟩⟩, by simp only [intOf]; omega⟩
                      · exact HKB3.out
                      · exact HB3.out
                      · exact HW3.out
        · have hkn : k = x.f1.f1.length := by have := HKK.out; omega
          have hkI : ¬ (k : Int) < (x.f1.f1.length : Int) := by omega
          go_wp2
          refine ⟨⟨i + 1, by first | rfl | (simp; done) | (rw [hwi]; done), ⟨hi⟩, ps, ⟨?_⟩⟩, by simp only [intOf]; omega⟩
          simp only [gObjs, HX.out, ← hkn]
          exact HK.out
    · have hin : i = ls.length := by have := HI.out; omega
      have hiI : ¬ (i : Int) < (ls.length : Int) := by omega
      go_wp2_with fail
      refine (HSRT.out wr u4 (gObjs ls ls.length) ps0 (by rw [← hin]; exact HK0.out) (gObjs_uniq _ _) (Nat.le_trans (gObjs_len ls ls.length) (Nat.le_trans (cnt_take _ _) HN.out))).mono ?_
      intro e w2 h2
      obtain ⟨h2, hq⟩ := h2
      subst h2
      have HQ := Aside0.mk hq
      clear hq
      go_wp2
      refine bodyPost_ret (v := u4) (by simp [results, Try.results19, go_sem]) rfl ?_
      obtain ⟨ps', h1, h2, h3⟩ := HQ.out
      exact ⟨u4, ps', rfl, h1, h2, h3⟩
end Go.Proofs.Ytchkjfokoenlnaa.Sym
