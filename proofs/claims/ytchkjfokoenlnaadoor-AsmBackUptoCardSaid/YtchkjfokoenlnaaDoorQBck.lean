/- bulwarklaw08.AsmBack by contract: true. Conditions: the words are words, at most 1048576 of them; the sentinels' cells. -/
import Derived.Test.YtchkjfokoenlnaaDoorQGet
import Derived.Test.YtchkjfokoenlnaaDoorQWrk
namespace Go.Proofs.YtchkjfokoenlnaaDoor.Lin
open Go.RowKit Go.Proofs.YtchkjfokoenlnaaDoorW.PrintWords Go.Proofs.YtchkjfokoenlnaaDoorW.PrintLast Go.Proofs.YtchkjfokoenlnaaDoor.Ins Go.Proofs.YtchkjfokoenlnaaDoor.InsP Go.Proofs.YtchkjfokoenlnaaDoor.Err
set_option linter.unusedVariables false
set_option linter.unusedSimpArgs false
theorem getS_in (w : Int) (h0 : 0 ≤ w) (h1 : w < 4294967296) : (⟨⟨#[]⟩, (getS w).1, ⟨#[]⟩⟩ : Ln).Wf := by
  have hz : (⟨⟨#[]⟩, ⟨0, 0, 0, 0, 0⟩, ⟨#[]⟩⟩ : Ln).Wf := ⟨by decide, by decide, by decide, by decide, by decide, by decide, by decide⟩
  unfold getS
  split
  · exact hz
  · rename_i p hp
    have hm := List.mem_of_find?_eq_some hp
    obtain ⟨hf, _, _, _, o0, o1⟩ := words_in p hm
    split
    · have hi := get_in (formP p) hf w h0 h1
      refine ⟨⟨by show 0 ≤ opP p; omega, by show opP p < 256; omega⟩, ?_, ?_, ?_, hi, Nat.zero_le _, Nat.zero_le _⟩
      · show 0 ≤ rdF (formP p) w ∧ rdF (formP p) w < 256
        unfold rdF; split <;> omega
      · show 0 ≤ rs1F (formP p) w ∧ rs1F (formP p) w < 256
        unfold rs1F; split <;> omega
      · show 0 ≤ rs2F (formP p) w ∧ rs2F (formP p) w < 256
        unfold rs2F; split <;> omega
    · exact hz
theorem linesOf_at (ws : List Int) {k i : Nat} (hi : i < k) : (linesOf ws k).getD i z33 = ⟨⟨#[]⟩, (getS (ws.getD i 0)).1, ⟨#[]⟩⟩ := by
  unfold linesOf
  rw [List.getD_eq_getElem?_getD, List.getElem?_map, List.getElem?_range hi]
  rfl
theorem linesOf_wf (ws : List Int) (hws : ∀ i, 0 ≤ ws.getD i 0 ∧ ws.getD i 0 < 4294967296) (k : Nat) : ∀ x ∈ linesOf ws k, x.Wf := by
  intro x hx
  unfold linesOf at hx
  obtain ⟨i, _, rfl⟩ := List.mem_map.1 hx
  exact getS_in _ (hws i).1 (hws i).2
/-- The words of the lines of words are they. -/
theorem back (ws : List Int) (hws : ∀ i, 0 ≤ ws.getD i 0 ∧ ws.getD i 0 < 4294967296) (hg : GoodW ws) : putL (linesOf ws ws.length) = (ws, 0) := by
  have hn : (linesOf ws ws.length).length = ws.length := linesOf_len ws ws.length
  have h1 : Once (linesOf ws ws.length) := fun i hi => by
    unfold dup
    rw [linesOf_at ws (by rw [hn] at hi; exact hi)]
    rfl
  have h2 : Stand (linesOf ws ws.length) := fun i hi => by
    rw [linesOf_at ws (by rw [hn] at hi; exact hi)]
    exact .inl rfl
  have hw : ∀ i, i < ws.length → lineW (linesOf ws ws.length) i = (ws.getD i 0, 0) := fun i hi => by
    unfold lineW
    simp only [linesOf_at ws hi, if_true]
    exact get_put _ (hws i).1 (hws i).2 _ (Prod.ext rfl (hg i hi))
  have h3 : Words (linesOf ws ws.length) := fun i hi => by rw [hw i (by rw [hn] at hi; exact hi)]
  unfold putL
  rw [if_neg (fun h => h h1), if_neg (fun h => h h2), if_pos h3, hn]
  refine Prod.ext ?_ rfl
  show wordsL (linesOf ws ws.length) ws.length = ws
  unfold wordsL
  refine List.ext_getElem (by simp) fun i g1 g2 => ?_
  rw [List.getElem_map, List.getElem_range, hw i g2, List.getD_eq_getElem?_getD, List.getElem?_eq_getElem g2]
  rfl
set_option maxRecDepth 100000 in
set_option maxHeartbeats 16000000 in
theorem back_walk (base other : Int) (A : Option Addr) (c : Nat) (ws : List Int) (hws : ∀ i, 0 ≤ ws.getD i 0 ∧ ws.getD i 0 < 4294967296) (hlen : ws.length ≤ 1048576) (hc : ws.length ≤ c) (w : World) (hr : Kd.C (Kd.int .u32) w A ws.length ws) (a0 a1 : Addr) (S : Sent w a0 a1) :
    Calls Tryd.prog 4 #[.int .u32 base, .int .u32 other, .slice A ws.length c] w fun e w' => e = .returned (.bool true) ∧ Below w.heap.size w w' := by
  have HS := Aside0.mk S
  have HR := Aside0.mk hr
  have HC := Aside0.mk hc
  have HL := Aside0.mk hlen
  have HWS := Aside0.mk hws
  have GC := Aside0.mk (get_all base A c ws hws hlen hc w hr)
  clear hr S hws hlen hc
  go_enter Tryd.func4, Tryd.ntmps4
  go_wp2_with fail
  refine GC.out.mono ?_
  clear GC
  intro e w1 h1
  obtain ⟨hb1, hcase⟩ := h1
  have HB1 := Aside0.mk hb1
  clear hb1
  rcases hcase with ⟨hg, he⟩ | ⟨hg, v, he, hv⟩
  · subst he
    go_wp2_with fail
    refine (works_calls _ a0 a1 (HS.out.below HB1.out)).mono ?_
    intro e w2 h2
    obtain ⟨h2, hb2⟩ := h2
    subst h2
    have HB2 := Aside0.mk hb2
    clear hb2
    go_wp2
    go_ret
    exact ⟨rfl, HB1.out.trans (HB2.out.mono HB1.out.size)⟩
  · subst he
    obtain ⟨B, c2, rfl, hle, hC⟩ := Kd.R_reads hv
    clear hv
    have HC1 := Aside0.mk hC
    have HLE := Aside0.mk hle
    have HG := Aside0.mk hg
    clear hC hle hg
    have PC := Aside0.mk (put_all other B c2 (linesOf ws ws.length) (linesOf_wf ws HWS.out _) (by rw [linesOf_len]; exact HL.out) HLE.out w1 HC1.out a0 a1 (HS.out.below HB1.out))
    go_wp2_with fail
    refine PC.out.mono ?_
    clear PC
    intro e w2 h2
    obtain ⟨v2, h2, hv2, hb2⟩ := h2
    subst h2
    rw [back ws HWS.out HG.out] at hv2 ⊢
    obtain ⟨D, c3, rfl, hle3, hC3⟩ := Kd.R_reads hv2
    have HB2 : Aside0 (Below w.heap.size w w2) := ⟨HB1.out.trans (hb2.mono HB1.out.size)⟩
    have HC3 := Aside0.mk hC3
    have HLE3 := Aside0.mk hle3
    clear hv2 hb2 hC3 hle3
    have hl3 : ((ws, (0 : Int)) : List Int × Int).1.length = ws.length := rfl
    simp only
    go_wp2_with fail
    refine (words_same D c3 A c ws w2 HC3.out HLE3.out (Kd.C_below HR.out HB2.out) HC.out).mono ?_
    intro e w3 h3
    obtain ⟨h3, ⟨nq, rfl⟩⟩ := h3
    subst h3
    have HB3 : Aside0 (Below w.heap.size w (w2.drewN nq)) := ⟨pw_below_drewN HB2.out _⟩
    go_wp2_with fail
    refine (works_calls _ a0 a1 (HS.out.below HB3.out)).mono ?_
    intro e w4 h4
    obtain ⟨h4, hb4⟩ := h4
    subst h4
    have HB4 := Aside0.mk hb4
    clear hb4
    go_wp2
    go_ret
    exact ⟨rfl, HB3.out.trans (HB4.out.mono HB3.out.size)⟩
end Go.Proofs.YtchkjfokoenlnaaDoor.Lin
