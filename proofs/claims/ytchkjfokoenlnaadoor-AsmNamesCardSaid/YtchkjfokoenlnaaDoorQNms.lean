/- bulwarklaw08.AsmNames by contract: true. Conditions: the lines' numbers are within their kinds, their names short enough to be keys; the sentinels' cells. -/
import Derived.Test.YtchkjfokoenlnaaDoorQRen
import Derived.Test.YtchkjfokoenlnaaDoorQWrk
import Derived.Test.YtchkjfokoenlnaaDoorQGet
import Derived.Laws.Concat
namespace Go.Proofs.YtchkjfokoenlnaaDoor.Lin
open Go.RowKit Go.Proofs.YtchkjfokoenlnaaDoorW.PrintWords Go.Proofs.YtchkjfokoenlnaaDoorW.PrintLast Go.Proofs.YtchkjfokoenlnaaDoor.Ins Go.Proofs.YtchkjfokoenlnaaDoor.InsP Go.Proofs.YtchkjfokoenlnaaDoor.Err
set_option linter.unusedVariables false
set_option linter.unusedSimpArgs false
/-- The first k lines with their new names. -/
def renTo (ls : List Ln) (k : Nat) : List Ln := (List.range k).map fun i => renL (ls.getD i z33)
theorem renTo_len (ls : List Ln) (k : Nat) : (renTo ls k).length = k := by unfold renTo; simp
theorem renTo_succ (ls : List Ln) (k : Nat) : renTo ls (k + 1) = renTo ls k ++ [renL (ls.getD k z33)] := by
  unfold renTo; rw [List.range_succ, List.map_append]; rfl
theorem renTo_all (ls : List Ln) : renTo ls ls.length = ls.map renL := by
  unfold renTo
  refine List.ext_getElem (by simp) fun i h1 h2 => ?_
  have hi : i < ls.length := by simpa using h2
  simp only [List.getElem_map, List.getElem_range]
  rw [List.getD_eq_getElem?_getD, List.getElem?_eq_getElem hi]; rfl
theorem renS_size (s : ByteArray) : (renS s).size ≤ s.size + 1 := by
  unfold renS
  split
  · omega
  · rw [ByteArray.size_append]; exact Nat.le_refl _
/-- Its names are shorter by one than a key may be. -/
def Ln.Short (x : Ln) : Prop := x.lab.size < maxLen ∧ x.aim.size < maxLen
theorem ren_wf {x : Ln} (h : x.Wf) (hs : x.Short) : (renL x).Wf := by
  obtain ⟨h1, h2, h3, h4, h5, h6, h7⟩ := h
  have a := renS_size x.lab
  have b := renS_size x.aim
  exact ⟨h1, h2, h3, h4, h5, Nat.le_trans a hs.1, Nat.le_trans b hs.2⟩
theorem wf_ren {ls : List Ln} (h : ∀ x ∈ ls, x.Wf) (hs : ∀ x ∈ ls, x.Short) : ∀ x ∈ ls.map renL, x.Wf := by
  intro x hx
  obtain ⟨y, hy, rfl⟩ := List.mem_map.1 hx
  exact ren_wf (h y hy) (hs y hy)
theorem add_x (s : ByteArray) (h : s.size < maxLen) (w : World) : (Op.stringOp .add s ⟨#[120]⟩).run Tryd.prog w = .ok (.string (s ++ ⟨#[120]⟩)) w :=
  run_string_add_sum w s ⟨#[120]⟩ (by unfold maxLen at h; show s.size + 1 ≤ 9223372036854775807; omega)
theorem short_at {ls : List Ln} (h : ∀ x ∈ ls, x.Short) (k : Nat) : (ls.getD k z33).Short := by
  rw [List.getD_eq_getElem?_getD]
  cases hg : ls[k]? with
  | none => exact ⟨by decide, by decide⟩
  | some x => exact h x (List.mem_of_getElem? hg)
set_option maxRecDepth 100000 in
set_option maxHeartbeats 16000000 in
theorem names_walk (base : Int) (A : Option Addr) (c : Nat) (ls : List Ln) (hwf : ∀ x ∈ ls, x.Wf) (hsh : ∀ x ∈ ls, x.Short) (hc : ls.length ≤ c) (w : World) (hr : Kd.C k33 w A ls.length ls) (a0 a1 : Addr) (S : Sent w a0 a1) :
    Calls Tryd.prog 3 #[.int .u32 base, .slice A ls.length c] w fun e w' => e = .returned (.bool true) ∧ Below w.heap.size w w' := by
  have HS := Aside0.mk S
  have HR := Aside0.mk hr
  have HC := Aside0.mk hc
  have HWF := Aside0.mk hwf
  have HSH := Aside0.mk hsh
  clear hr S hwf hc hsh
  by_cases hlen : ls.length ≤ 300
  · have hn : ¬ (300 : Int) < (ls.length : Int) := by omega
    have PC := Aside0.mk (put_all base A c ls HWF.out (by omega) HC.out w HR.out a0 a1 HS.out)
    go_enter Tryd.func3, Tryd.ntmps3
    go_wp2_with fail
    refine PC.out.mono ?_
    clear PC
    intro e w1 h1
    obtain ⟨v1, h1, hv1, hb1⟩ := h1
    subst h1
    obtain ⟨D, c3, rfl, hle3, hC3⟩ := Kd.R_reads hv1
    have HB1 := Aside0.mk hb1
    have HC3 := Aside0.mk hC3
    have HLE3 := Aside0.mk hle3
    clear hv1 hb1 hC3 hle3
    obtain ⟨pw, pe, hp⟩ : ∃ a b, putL ls = (a, b) := ⟨_, _, rfl⟩
    rw [hp] at HC3 HLE3 ⊢
    have HP := Aside0.mk hp
    clear hp
    simp only at HC3 HLE3
    simp only []
    go_wp2_with fail
    go_loopw [7, 8] (fun v7 v8 wr => ∃ j : Nat, v8 = .int .i64 j ∧ Aside0 (j ≤ ls.length) ∧ Aside0 (Below w1.heap.size w1 wr) ∧ Aside0 (k33.R 33 wr w1.heap.size (fun _ => True) v7 (renTo ls j))) (fun _ v8 _ => ls.length - (intOf v8).toNat)
    case atStart => exact ⟨0, rfl, ⟨Nat.zero_le _⟩, ⟨Below.refl _ _⟩, ⟨Kd.R_nil _ _ _ _ _⟩⟩
    case round =>
      obtain ⟨j, rfl, HJ, HB, HV⟩ := hrel
      have HBW : Aside0 (Below w.heap.size w wr) := ⟨HB1.out.trans (HB.out.mono HB1.out.size)⟩
      by_cases hj : j < ls.length
      · have hjI : (j : Int) < (ls.length : Int) := by omega
        obtain ⟨ad, rfl, f0, f1, f2, f3, f4, f5, f6⟩ := at_T33 (Kd.C_below HR.out HBW.out) (j : Int) (by omega) hjI
        obtain ⟨x, hx⟩ : ∃ x, rd_T33 ls (j : Int) = x := ⟨_, rfl⟩
        rw [hx] at f0 f1 f2 f3 f4 f5 f6
        rw [Int.toNat_natCast] at f0 f1 f2 f3 f4 f5 f6
        have hx' : ls.getD j z33 = x := by rw [← hx]; unfold rd_T33; rw [Int.toNat_natCast]
        have HX := Aside0.mk hx'
        clear hx hx'
        have hwk : wrap64 ((j : Int) + 1) = ((j + 1 : Nat) : Int) := by unfold wrap64; omega
        have hxs : x.Short := by rw [← HX.out]; exact short_at HSH.out j
        have hadd1 : x.lab.size + 1 ≤ 9223372036854775807 := hxs.1
        have hadd2 : x.aim.size + 1 ≤ 9223372036854775807 := hxs.2
        clear hxs
        by_cases he1 : x.lab = ⟨#[]⟩
        · have ee1 : x.lab.toList.isEmpty = true := by rw [empty_is]; exact decide_eq_true he1
          by_cases he2 : x.aim = ⟨#[]⟩
          · have ee2 : x.aim.toList.isEmpty = true := by rw [empty_is]; exact decide_eq_true he2
            have HE : Aside0 (renL x = ⟨x.lab, x.ins, x.aim⟩) := ⟨by unfold renL renS; rw [if_pos he1, if_pos he2]⟩
            clear he1 he2
            go_wp2_with ((with_reducible refine gate_builtin (b := .append) (xs := #[.tmp 46, .tmp 48]) rfl ?_); at_builtin; refine Aside0.out ?_)
            refine Aside0.mk ?_
            refine Kd.R_append k33 (w0 := w1) w1.heap.size rfl (.tmp 46) (.tmp 48) 23 33 (.agg #[.string ⟨#[]⟩, .int .u8 0, .int .u8 0, .int .u8 0, .int .u8 0, .int .i32 0, .string ⟨#[]⟩]) 40 rfl Tryd.underlying23 info33 rfl (by decide) (by omega) u7 (renTo ls j) ⟨x.lab, x.ins, x.aim⟩ _ (fun _ => True) (fun _ => False) rfl ?aX3 ?aP3 (fun _ hk => hk.elim) ?aF3 ?aO3 ?aB3 ?aS3 ?aL3 ?_
            case aX3 => simp [Act.eval]
            case aP3 => exact k33_mkM _ _ _ ⟨x.lab, x.ins, x.aim⟩
            case aB3 => exact below_alloc HB.out _
            case aF3 => exact (fun _ _ => trivial)
            case aO3 => exact Kd.R_alloc HV.out _
            case aS3 => exact (below_alloc HB.out _).size
            case aL3 => rw [renTo_len]; omega
            intro v106 w7 ho hb hg hat
            have HO7 := Aside0.mk ho
            have HB7 := Aside0.mk hb
            clear ho hb hg hat
            go_wp2
            exact ⟨⟨j + 1, by first | rfl | (simp; done) | (rw [hwk]; done), ⟨hj⟩, HB7, ⟨by rw [renTo_succ, HX.out, HE.out]; exact HO7.out⟩⟩, by simp only [intOf]; omega⟩
          · have ee2 : x.aim.toList.isEmpty = false := by rw [empty_is]; exact decide_eq_false he2
            have HE : Aside0 (renL x = ⟨x.lab, x.ins, (x.aim ++ ⟨#[120]⟩)⟩) := ⟨by unfold renL renS; rw [if_pos he1, if_neg he2]⟩
            clear he1 he2
            go_wp2_with ((with_reducible refine gate_builtin (b := .append) (xs := #[.tmp 46, .tmp 48]) rfl ?_); at_builtin; refine Aside0.out ?_)
            refine Aside0.mk ?_
            refine Kd.R_append k33 (w0 := w1) w1.heap.size rfl (.tmp 46) (.tmp 48) 23 33 (.agg #[.string ⟨#[]⟩, .int .u8 0, .int .u8 0, .int .u8 0, .int .u8 0, .int .i32 0, .string ⟨#[]⟩]) 40 rfl Tryd.underlying23 info33 rfl (by decide) (by omega) u7 (renTo ls j) ⟨x.lab, x.ins, (x.aim ++ ⟨#[120]⟩)⟩ _ (fun _ => True) (fun _ => False) rfl ?aX2 ?aP2 (fun _ hk => hk.elim) ?aF2 ?aO2 ?aB2 ?aS2 ?aL2 ?_
            case aX2 => simp [Act.eval]
            case aP2 => exact k33_mkM _ _ _ ⟨x.lab, x.ins, (x.aim ++ ⟨#[120]⟩)⟩
            case aB2 => exact below_alloc HB.out _
            case aF2 => exact (fun _ _ => trivial)
            case aO2 => exact Kd.R_alloc HV.out _
            case aS2 => exact (below_alloc HB.out _).size
            case aL2 => rw [renTo_len]; omega
            intro v106 w7 ho hb hg hat
            have HO7 := Aside0.mk ho
            have HB7 := Aside0.mk hb
            clear ho hb hg hat
            go_wp2
            exact ⟨⟨j + 1, by first | rfl | (simp; done) | (rw [hwk]; done), ⟨hj⟩, HB7, ⟨by rw [renTo_succ, HX.out, HE.out]; exact HO7.out⟩⟩, by simp only [intOf]; omega⟩
        · have ee1 : x.lab.toList.isEmpty = false := by rw [empty_is]; exact decide_eq_false he1
          by_cases he2 : x.aim = ⟨#[]⟩
          · have ee2 : x.aim.toList.isEmpty = true := by rw [empty_is]; exact decide_eq_true he2
            have HE : Aside0 (renL x = ⟨(x.lab ++ ⟨#[120]⟩), x.ins, x.aim⟩) := ⟨by unfold renL renS; rw [if_neg he1, if_pos he2]⟩
            clear he1 he2
            go_wp2_with ((with_reducible refine gate_builtin (b := .append) (xs := #[.tmp 46, .tmp 48]) rfl ?_); at_builtin; refine Aside0.out ?_)
            refine Aside0.mk ?_
            refine Kd.R_append k33 (w0 := w1) w1.heap.size rfl (.tmp 46) (.tmp 48) 23 33 (.agg #[.string ⟨#[]⟩, .int .u8 0, .int .u8 0, .int .u8 0, .int .u8 0, .int .i32 0, .string ⟨#[]⟩]) 40 rfl Tryd.underlying23 info33 rfl (by decide) (by omega) u7 (renTo ls j) ⟨(x.lab ++ ⟨#[120]⟩), x.ins, x.aim⟩ _ (fun _ => True) (fun _ => False) rfl ?aX1 ?aP1 (fun _ hk => hk.elim) ?aF1 ?aO1 ?aB1 ?aS1 ?aL1 ?_
            case aX1 => simp [Act.eval]
            case aP1 => exact k33_mkM _ _ _ ⟨(x.lab ++ ⟨#[120]⟩), x.ins, x.aim⟩
            case aB1 => exact below_alloc HB.out _
            case aF1 => exact (fun _ _ => trivial)
            case aO1 => exact Kd.R_alloc HV.out _
            case aS1 => exact (below_alloc HB.out _).size
            case aL1 => rw [renTo_len]; omega
            intro v106 w7 ho hb hg hat
            have HO7 := Aside0.mk ho
            have HB7 := Aside0.mk hb
            clear ho hb hg hat
            go_wp2
            exact ⟨⟨j + 1, by first | rfl | (simp; done) | (rw [hwk]; done), ⟨hj⟩, HB7, ⟨by rw [renTo_succ, HX.out, HE.out]; exact HO7.out⟩⟩, by simp only [intOf]; omega⟩
          · have ee2 : x.aim.toList.isEmpty = false := by rw [empty_is]; exact decide_eq_false he2
            have HE : Aside0 (renL x = ⟨(x.lab ++ ⟨#[120]⟩), x.ins, (x.aim ++ ⟨#[120]⟩)⟩) := ⟨by unfold renL renS; rw [if_neg he1, if_neg he2]⟩
            clear he1 he2
            go_wp2_with ((with_reducible refine gate_builtin (b := .append) (xs := #[.tmp 46, .tmp 48]) rfl ?_); at_builtin; refine Aside0.out ?_)
            refine Aside0.mk ?_
            refine Kd.R_append k33 (w0 := w1) w1.heap.size rfl (.tmp 46) (.tmp 48) 23 33 (.agg #[.string ⟨#[]⟩, .int .u8 0, .int .u8 0, .int .u8 0, .int .u8 0, .int .i32 0, .string ⟨#[]⟩]) 40 rfl Tryd.underlying23 info33 rfl (by decide) (by omega) u7 (renTo ls j) ⟨(x.lab ++ ⟨#[120]⟩), x.ins, (x.aim ++ ⟨#[120]⟩)⟩ _ (fun _ => True) (fun _ => False) rfl ?aX0 ?aP0 (fun _ hk => hk.elim) ?aF0 ?aO0 ?aB0 ?aS0 ?aL0 ?_
            case aX0 => simp [Act.eval]
            case aP0 => exact k33_mkM _ _ _ ⟨(x.lab ++ ⟨#[120]⟩), x.ins, (x.aim ++ ⟨#[120]⟩)⟩
            case aB0 => exact below_alloc HB.out _
            case aF0 => exact (fun _ _ => trivial)
            case aO0 => exact Kd.R_alloc HV.out _
            case aS0 => exact (below_alloc HB.out _).size
            case aL0 => rw [renTo_len]; omega
            intro v106 w7 ho hb hg hat
            have HO7 := Aside0.mk ho
            have HB7 := Aside0.mk hb
            clear ho hb hg hat
            go_wp2
            exact ⟨⟨j + 1, by first | rfl | (simp; done) | (rw [hwk]; done), ⟨hj⟩, HB7, ⟨by rw [renTo_succ, HX.out, HE.out]; exact HO7.out⟩⟩, by simp only [intOf]; omega⟩
      · have hjn : j = ls.length := by have := HJ.out; omega
        have hjI : ¬ (j : Int) < (ls.length : Int) := by omega
        have HV2 : Aside0 (k33.R 33 wr w1.heap.size (fun _ => True) u7 (ls.map renL)) := ⟨by rw [← renTo_all, ← hjn]; exact HV.out⟩
        clear HV
        obtain ⟨B, c4, rfl, hle4, hC4⟩ := Kd.R_reads HV2.out
        rw [List.length_map] at hle4 hC4 ⊢
        have PC := Aside0.mk (put_all ((base + 4) % 4294967296) B c4 (ls.map renL) (wf_ren HWF.out HSH.out) (by rw [List.length_map]; omega) (by rw [List.length_map]; exact hle4) wr (by rw [List.length_map]; exact hC4) a0 a1 (HS.out.below HBW.out))
        rw [List.length_map] at PC
        clear HV2 hle4 hC4
        go_wp2_with fail
        refine PC.out.mono ?_
        clear PC
        intro e w2 h2
        obtain ⟨v2, h2, hv2, hb2⟩ := h2
        subst h2
        rw [put_ren, HP.out] at hv2 ⊢
        obtain ⟨E, c5, rfl, hle5, hC5⟩ := Kd.R_reads hv2
        have HB2 : Aside0 (Below w.heap.size w w2) := ⟨HBW.out.trans (hb2.mono HBW.out.size)⟩
        have HC3' : Aside0 (Kd.C (Kd.int .u32) w2 D pw.length pw) := ⟨Kd.C_below (Kd.C_below HC3.out HB.out) hb2⟩
        have HC5 := Aside0.mk hC5
        have HLE5 := Aside0.mk hle5
        clear hv2 hb2 hC5 hle5 HC3
        simp only [] at HC5 HLE5
        simp only []
        go_wp2_with fail
        refine (words_same D c3 E c5 pw _ HC3'.out HLE3.out HC5.out HLE5.out).mono ?_
        intro e w3 h3
        obtain ⟨h3, ⟨nq, rfl⟩⟩ := h3
        subst h3
        have HB3 : Aside0 (Below w.heap.size w (w2.drewN nq)) := ⟨pw_below_drewN HB2.out _⟩
        go_wp2_with fail
        refine (works_calls _ a0 a1 (HS.out.below HB3.out)).mono ?_
        intro e w4 h4
        obtain ⟨h4, hb4⟩ := h4
        subst h4
        have HB4 := Aside0.mk hb4
        clear hb4
        go_wp2
        go_ret
        exact ⟨rfl, HB3.out.trans (HB4.out.mono HB3.out.size)⟩
  · have hn : (300 : Int) < (ls.length : Int) := by omega
    go_enter Tryd.func3, Tryd.ntmps3
    go_wp2_with fail
    refine (works_calls _ a0 a1 HS.out).mono ?_
    intro e w4 h4
    obtain ⟨h4, hb4⟩ := h4
    subst h4
    have HB4 := Aside0.mk hb4
    clear hb4
    go_wp2
    go_ret
    exact ⟨rfl, HB4.out⟩
end Go.Proofs.YtchkjfokoenlnaaDoor.Lin
