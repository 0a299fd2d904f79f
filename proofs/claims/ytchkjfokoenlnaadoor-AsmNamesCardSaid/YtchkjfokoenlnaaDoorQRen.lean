/- Lines with other names (a sign more at each name's end) have the same words, or the same error. No program in sight. -/
import Derived.Test.YtchkjfokoenlnaaDoorQLin
import Derived.Maps.Views
namespace Go.Proofs.YtchkjfokoenlnaaDoor.Lin
open Go.Proofs.YtchkjfokoenlnaaDoor.InsP Go.Maps
set_option linter.unusedVariables false
/-- A name with a sign more; none stays none. -/
def renS (s : ByteArray) : ByteArray := if s = ⟨#[]⟩ then s else s ++ ⟨#[120]⟩
def renL (x : Ln) : Ln := ⟨renS x.lab, x.ins, renS x.aim⟩
theorem renS_nil : renS ⟨#[]⟩ = ⟨#[]⟩ := by unfold renS; simp
theorem app_data (s t : ByteArray) : (s ++ t).data = s.data ++ t.data := by simp
theorem renS_empty {s : ByteArray} : renS s = ⟨#[]⟩ ↔ s = ⟨#[]⟩ := by
  unfold renS
  split
  · exact Iff.rfl
  · rename_i h
    constructor
    · intro e
      have := congrArg (fun b : ByteArray => b.data.size) e
      simp at this
    · intro e; exact absurd e h
theorem renS_inj {s t : ByteArray} (h : renS s = renS t) : s = t := by
  by_cases hs : s = ⟨#[]⟩
  · subst hs; rw [renS_nil] at h; exact (renS_empty.1 h.symm).symm
  · by_cases ht : t = ⟨#[]⟩
    · subst ht; rw [renS_nil] at h; exact renS_empty.1 h
    · unfold renS at h
      rw [if_neg hs, if_neg ht] at h
      have := congrArg (fun b : ByteArray => b.data) h
      simp only [app_data] at this
      have h2 : s.data = t.data := Array.append_left_inj _ |>.1 this
      exact ByteArray.ext h2
theorem renL_z : renL z33 = z33 := by unfold renL z33; simp [renS_nil]
theorem ren_at (ls : List Ln) (k : Nat) : (ls.map renL).getD k z33 = renL (ls.getD k z33) := by
  rw [List.getD_eq_getElem?_getD, List.getD_eq_getElem?_getD, List.getElem?_map]
  cases ls[k]? with
  | none => simp [renL_z]
  | some x => rfl
theorem isMap_tab (ls : List Ln) (k : Nat) : IsMap (tab ls k) := by
  induction k with
  | zero => exact ⟨[], rfl⟩
  | succ k ih =>
    unfold tab
    split
    · exact ih
    · exact ih.put _ _
theorem tab_ren (ls : List Ln) (s : ByteArray) (k : Nat) :
    has (tab (ls.map renL) k) (keyL (renS s)) = has (tab ls k) (keyL s) ∧ ∀ z, (tab (ls.map renL) k).atKey (keyL (renS s)) z = (tab ls k).atKey (keyL s) z := by
  induction k with
  | zero => exact ⟨rfl, fun z => rfl⟩
  | succ k ih =>
    by_cases he : (ls.getD k z33).lab = ⟨#[]⟩
    · rw [tab_succ_empty he, tab_succ_empty (by rw [ren_at]; exact renS_empty.2 he)]
      exact ih
    · rw [tab_succ he, tab_succ (by rw [ren_at]; exact fun h => he (renS_empty.1 h)), ren_at]
      show has ((tab (ls.map renL) k).put (keyL (renS (ls.getD k z33).lab)) _) _ = _ ∧ ∀ z, ((tab (ls.map renL) k).put (keyL (renS (ls.getD k z33).lab)) _).atKey _ _ = _
      by_cases hs : s = (ls.getD k z33).lab
      · subst hs
        exact ⟨by rw [has_put_same (isMap_tab _ _) (keyL_is _), has_put_same (isMap_tab _ _) (keyL_is _)], fun z => by rw [atKey_put_same (isMap_tab _ _) (keyL_is _), atKey_put_same (isMap_tab _ _) (keyL_is _)]⟩
      · have h1 : keyL s ≠ keyL (ls.getD k z33).lab := fun h => hs (keyL_inj h)
        have h2 : keyL (renS s) ≠ keyL (renS (ls.getD k z33).lab) := fun h => hs (renS_inj (keyL_inj h))
        exact ⟨by rw [has_put_other h1, has_put_other h2]; exact ih.1, fun z => by rw [atKey_put_other h1, atKey_put_other h2]; exact ih.2 z⟩
theorem has_ren (ls : List Ln) (k : Nat) (s : ByteArray) : hasT (ls.map renL) k (renS s) = hasT ls k s := (tab_ren ls s k).1
theorem idx_ren (ls : List Ln) (s : ByteArray) : idx (ls.map renL) (renS s) = idx ls s := by
  unfold idx; rw [List.length_map, (tab_ren ls s _).2]
theorem dup_ren (ls : List Ln) (k : Nat) : dup (ls.map renL) k = dup ls k := by
  unfold dup
  rw [ren_at]
  show (!decide (renS _ = _) && hasT _ k (renS _)) = _
  rw [has_ren, decide_eq_decide.2 renS_empty]
theorem once_ren (ls : List Ln) : Once (ls.map renL) ↔ Once ls := by
  unfold Once; simp only [List.length_map, dup_ren]
theorem stand_ren (ls : List Ln) : Stand (ls.map renL) ↔ Stand ls := by
  unfold Stand; simp only [List.length_map, ren_at, renL, renS_empty, has_ren]
theorem lineW_ren (ls : List Ln) (i : Nat) : lineW (ls.map renL) i = lineW ls i := by
  unfold lineW far
  simp only [ren_at, renL, renS_empty, idx_ren]
theorem words_ren (ls : List Ln) : Words (ls.map renL) ↔ Words ls := by
  unfold Words; simp only [List.length_map, lineW_ren]
theorem put_7 {ls : List Ln} (h : ¬ Once ls) : putL ls = ([], 7) := by unfold putL; rw [if_pos h]
theorem put_6 {ls : List Ln} (h : Once ls) (h2 : ¬ Stand ls) : putL ls = ([], 6) := by unfold putL; rw [if_neg (fun k => k h), if_pos h2]
theorem put_2 {ls : List Ln} (h : Once ls) (h2 : Stand ls) (h3 : ¬ Words ls) : putL ls = ([], 2) := by unfold putL; rw [if_neg (fun k => k h), if_neg (fun k => k h2), if_neg h3]
theorem put_0 {ls : List Ln} (h : Once ls) (h2 : Stand ls) (h3 : Words ls) : putL ls = (wordsL ls ls.length, 0) := by unfold putL; rw [if_neg (fun k => k h), if_neg (fun k => k h2), if_pos h3]
/-- With other names they are the same words, or the same error. -/
theorem put_ren (ls : List Ln) : putL (ls.map renL) = putL ls := by
  have hw : wordsL (ls.map renL) (ls.map renL).length = wordsL ls ls.length := by
    unfold wordsL; simp only [List.length_map, lineW_ren]
  by_cases h1 : Once ls
  · by_cases h2 : Stand ls
    · by_cases h3 : Words ls
      · rw [put_0 h1 h2 h3, put_0 ((once_ren ls).2 h1) ((stand_ren ls).2 h2) ((words_ren ls).2 h3), hw]
      · rw [put_2 h1 h2 h3, put_2 ((once_ren ls).2 h1) ((stand_ren ls).2 h2) (fun h => h3 ((words_ren ls).1 h))]
    · rw [put_6 h1 h2, put_6 ((once_ren ls).2 h1) (fun h => h2 ((stand_ren ls).1 h))]
  · rw [put_7 h1, put_7 (fun h => h1 ((once_ren ls).1 h))]
end Go.Proofs.YtchkjfokoenlnaaDoor.Lin
