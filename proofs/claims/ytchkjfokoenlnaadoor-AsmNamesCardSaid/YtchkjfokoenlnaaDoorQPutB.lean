/- asm.Put and asm.Place by contract: putL, placeL. Conditions: the lines' numbers are within their kinds, their names short enough to be keys, at most 1048576 lines; the sentinels' cells. -/
import Derived.Test.YtchkjfokoenlnaaDoorQPutL
namespace Go.Proofs.YtchkjfokoenlnaaDoor.Lin
open Go.WideMaps Go.RowKit Go.Proofs.YtchkjfokoenlnaaDoorW.PrintWords Go.Proofs.YtchkjfokoenlnaaDoorW.PrintLast Go.Proofs.YtchkjfokoenlnaaDoor.Ins Go.Proofs.YtchkjfokoenlnaaDoor.InsP Go.Proofs.YtchkjfokoenlnaaDoor.Err Go.Maps
set_option linter.unusedVariables false
set_option linter.unusedSimpArgs false
set_option maxRecDepth 100000 in
set_option maxHeartbeats 8000000 in
theorem put_all (base : Int) (A : Option Addr) (c : Nat) (ls : List Ln) (hwf : ∀ x ∈ ls, x.Wf) (hlen : ls.length ≤ 1048576) (hc : ls.length ≤ c) (w : World) (hr : Kd.C k33 w A ls.length ls) (a0 a1 : Addr) (S : Sent w a0 a1) :
    Calls Tryd.prog 6 #[.int .u32 base, .slice A ls.length c] w fun e w' => ∃ v, e = .returned (.tuple #[v, .int .i64 (putL ls).2]) ∧ (Kd.int .u32).R 22 w' w.heap.size (fun _ => True) v (putL ls).1 ∧ Below w.heap.size w w' := by
  have HS := Aside0.mk S
  have PC := Aside0.mk (put_lines A c ls hwf hlen hc w hr a0 a1 S)
  clear hr S hwf hc hlen
  have hne := Err.ne_nil
  have hns := Err.ne_nils
  obtain ⟨pl, hpl⟩ : ∃ p, putL ls = p := ⟨_, rfl⟩
  rw [hpl]
  have HPL := Aside0.mk hpl
  clear hpl
  go_enter Tryd.func6, Tryd.ntmps6
  go_wp2_with fail
  refine PC.out.mono ?_
  clear PC
  intro e w1 h1
  obtain ⟨hb1, hcase⟩ := h1
  have HB1 := Aside0.mk hb1
  have HS1 : Aside0 (Sent w1 a0 a1) := ⟨HS.out.below hb1⟩
  clear hb1
  rcases hcase with ⟨h1, i, he⟩ | ⟨h1, h2, i, he⟩ | ⟨h1, h2, h3, i, v, he⟩ | ⟨h1, h2, h3, v, he, hv⟩
  · subst he
    have hp : pl = ([], 7) := by rw [← HPL.out]; unfold putL; rw [if_pos h1]
    have HP := Aside0.mk hp
    clear hp h1
    go_wp2_with fail
    refine (number_twice i a0 a1 _ HS1.out).mono ?_
    intro e w2 h2; obtain ⟨h2, hb2⟩ := h2; subst h2
    have HB2 := Aside0.mk hb2
    clear hb2
    go_wp2
    refine bodyPost_ret (v := .tuple #[.slice none 0 0, .int .i64 7]) (by simp [results, Tryd.results6, go_sem]) rfl ?_
    rw [HP.out]
    exact ⟨_, rfl, Kd.R_nil _ _ _ _ _, HB1.out.trans (HB2.out.mono HB1.out.size)⟩
  · subst he
    have hp : pl = ([], 6) := by rw [← HPL.out]; unfold putL; rw [if_neg (fun h => h h1), if_pos h2]
    have HP := Aside0.mk hp
    clear hp h1 h2
    go_wp2_with fail
    refine (number_none i a0 a1 _ HS1.out).mono ?_
    intro e w2 h2; obtain ⟨h2, hb2⟩ := h2; subst h2
    have HB2 := Aside0.mk hb2
    clear hb2
    go_wp2
    refine bodyPost_ret (v := .tuple #[.slice none 0 0, .int .i64 6]) (by simp [results, Tryd.results6, go_sem]) rfl ?_
    rw [HP.out]
    exact ⟨_, rfl, Kd.R_nil _ _ _ _ _, HB1.out.trans (HB2.out.mono HB1.out.size)⟩
  · subst he
    have hp : pl = ([], 2) := by rw [← HPL.out]; unfold putL; rw [if_neg (fun h => h h1), if_neg (fun h => h h2), if_neg h3]
    have HP := Aside0.mk hp
    clear hp h1 h2 h3
    go_wp2_with fail
    refine (number_num i v a0 a1 _ HS1.out).mono ?_
    intro e w2 h2; obtain ⟨h2, hb2⟩ := h2; subst h2
    have HB2 := Aside0.mk hb2
    clear hb2
    go_wp2
    refine bodyPost_ret (v := .tuple #[.slice none 0 0, .int .i64 2]) (by simp [results, Tryd.results6, go_sem]) rfl ?_
    rw [HP.out]
    exact ⟨_, rfl, Kd.R_nil _ _ _ _ _, HB1.out.trans (HB2.out.mono HB1.out.size)⟩
  · subst he
    have hp : pl = (wordsL ls ls.length, 0) := by rw [← HPL.out]; unfold putL; rw [if_neg (fun h => h h1), if_neg (fun h => h h2), if_pos h3]
    have HP := Aside0.mk hp
    have HV := Aside0.mk hv
    clear hp h1 h2 h3 hv
    go_wp2
    refine bodyPost_ret (v := .tuple #[v, .int .i64 0]) (by simp [results, Tryd.results6, go_sem]) rfl ?_
    rw [HP.out]
    exact ⟨_, rfl, HV.out, HB1.out⟩
/-- What asm.Place answers: where a name stands, and the error. -/
noncomputable def placeL (base : Int) (ls : List Ln) (s : ByteArray) : Int × Int :=
  open Classical in if ¬ Once ls then (0, 7) else if hasT ls ls.length s then ((base + 4 * ((idx ls s) % 4294967296) % 4294967296) % 4294967296, 0) else (0, 6)
set_option maxRecDepth 100000 in
set_option maxHeartbeats 8000000 in
theorem place_all (base : Int) (hb0 : 0 ≤ base ∧ base < 4294967296) (A : Option Addr) (c : Nat) (ls : List Ln) (hwf : ∀ x ∈ ls, x.Wf) (hc : ls.length ≤ c) (s : ByteArray) (hs : s.size ≤ maxLen) (w : World) (hr : Kd.C k33 w A ls.length ls) (a0 a1 : Addr) (S : Sent w a0 a1) :
    Calls Tryd.prog 9 #[.int .u32 base, .slice A ls.length c, .string s] w fun e w' => e = .returned (.tuple #[.int .u32 (placeL base ls s).1, .int .i64 (placeL base ls s).2]) ∧ Below w.heap.size w w' := by
  have HS := Aside0.mk S
  have NC := Aside0.mk (names_calls A c ls hwf hc w hr a0 a1 S)
  clear hr S hwf hc
  have hne := Err.ne_nil
  have hns := Err.ne_nils
  obtain ⟨pl, hpl⟩ : ∃ p, placeL base ls s = p := ⟨_, rfl⟩
  rw [hpl]
  have HPL := Aside0.mk hpl
  clear hpl
  go_enter Tryd.func9, Tryd.ntmps9
  go_wp2_with fail
  refine NC.out.mono ?_
  clear NC
  intro e w1 h1
  obtain ⟨hb1, hcase⟩ := h1
  have HB1 := Aside0.mk hb1
  have HS1 : Aside0 (Sent w1 a0 a1) := ⟨HS.out.below hb1⟩
  clear hb1
  rcases hcase with ⟨h1, b, he, hbb, hm⟩ | ⟨h1, i, he⟩
  · subst he
    obtain ⟨n, hn⟩ : ∃ n, idx ls s = n := ⟨_, rfl⟩
    obtain ⟨bv, hbv⟩ : ∃ b, hasT ls ls.length s = b := ⟨_, rfl⟩
    have hl : (Instr.lookup 48 (.map (some b)) (.string s) true).run Tryd.prog w1 = .ok (.tuple #[.int .i64 n, .bool bv]) w1 := by
      rw [look_ok hm hs, hbv, ← hn]; rfl
    cases bv with
    | false =>
      have hp : pl = (0, 6) := by rw [← HPL.out]; unfold placeL; rw [if_neg (fun h => h h1), hbv]; rfl
      have HP := Aside0.mk hp
      clear hp h1 hbv hn hm
      go_wp2
      refine bodyPost_ret (v := .tuple #[.int .u32 0, .int .i64 6]) (by simp [results, Tryd.results9, go_sem]) rfl ?_
      rw [HP.out]
      exact ⟨rfl, HB1.out⟩
    | true =>
      have hp : pl = ((base + 4 * (n % 4294967296) % 4294967296) % 4294967296, 0) := by rw [← HPL.out]; unfold placeL; rw [if_neg (fun h => h h1), hbv, hn]; rfl
      have HP := Aside0.mk hp
      clear hp h1 hbv hn hm
      go_wp2
      refine bodyPost_ret (v := .tuple #[.int .u32 ((base + 4 * (n % 4294967296) % 4294967296) % 4294967296), .int .i64 0]) (by simp [results, Tryd.results9, go_sem]) rfl ?_
      rw [HP.out]
      exact ⟨rfl, HB1.out⟩
  · subst he
    have hp : pl = (0, 7) := by rw [← HPL.out]; unfold placeL; rw [if_pos h1]
    have HP := Aside0.mk hp
    clear hp h1
    go_wp2_with fail
    refine (number_twice i a0 a1 _ HS1.out).mono ?_
    intro e w2 h2; obtain ⟨h2, hb2⟩ := h2; subst h2
    have HB2 := Aside0.mk hb2
    clear hb2
    go_wp2
    refine bodyPost_ret (v := .tuple #[.int .u32 0, .int .i64 7]) (by simp [results, Tryd.results9, go_sem]) rfl ?_
    rw [HP.out]
    exact ⟨rfl, HB1.out.trans (HB2.out.mono HB1.out.size)⟩
end Go.Proofs.YtchkjfokoenlnaaDoor.Lin
