/- The objects in the other order: where their symbols stand. No program in sight. -/
import Derived.Test.YtchkjfokoenlnaaQSyV
import Derived.Test.YtchkjfokoenlnaaQSyBB
import Derived.Test.YtchkjfokoenlnaaQSyQ
namespace Go.Proofs.Ytchkjfokoenlnaa.Sym
open Go.RowKit Go.Proofs.YtchkjfokoenlnaaW.PrintWords Go.Proofs.YtchkjfokoenlnaaW.PrintLast Go.Proofs.Ytchkjfokoenlnaa.QSy
set_option linter.unusedVariables false
set_option linter.unusedSimpArgs false
/-- Where a symbol stands in the other order. -/
def mir (ls : List S44) (o : Occ) : Occ := ⟨(ls.length : Int) - 1 - o.i, o.k, o.s⟩
theorem rev_get (ls : List S44) (i : Int) (h0 : 0 ≤ i) (h1 : i < ls.length) : ls.reverse.getD ((ls.length : Int) - 1 - i).toNat z44 = ls.getD i.toNat z44 := by
  have e : ((ls.length : Int) - 1 - i).toNat = ls.length - 1 - i.toNat := by omega
  rw [e, List.getD_eq_getElem?_getD, List.getD_eq_getElem?_getD, List.getElem?_reverse (by omega)]
  congr 2
  omega
theorem occs_mir (ls : List S44) (o : Occ) (h : o ∈ occs ls) : mir ls o ∈ occs ls.reverse := by
  obtain ⟨⟨h1, h2, h3, h4⟩, h5⟩ := (occs_mem ls o).1 h
  have hg := rev_get ls o.i h1 h2
  refine (occs_mem _ _).2 ⟨⟨?_, ?_, h3, ?_⟩, ?_⟩
  · show 0 ≤ (ls.length : Int) - 1 - o.i
    omega
  · show (ls.length : Int) - 1 - o.i < ls.reverse.length
    rw [List.length_reverse]; omega
  · show o.k < ((ls.reverse.getD ((ls.length : Int) - 1 - o.i).toNat z44).f1.f1).length
    rw [hg]; exact h4
  · show o.s = symAt ls.reverse ((ls.length : Int) - 1 - o.i) o.k
    rw [h5]; unfold symAt; rw [hg]
theorem mir_mir (ls : List S44) (o : Occ) : mir ls.reverse (mir ls o) = o := by
  cases o
  simp only [mir, List.length_reverse]
  congr 1
  omega
theorem occs_back (ls : List S44) (o : Occ) (h : o ∈ occs ls.reverse) : mir ls o ∈ occs ls := by
  have := occs_mir ls.reverse o h
  rw [List.reverse_reverse] at this
  have e : mir ls.reverse o = mir ls o := by unfold mir; rw [List.length_reverse]
  rwa [e] at this
/-- How many symbols are so. -/
def many_p (p : S47 → Bool) (ls : List S44) : Nat := (ls.map fun x => (x.f1.f1.filter p).length).sum
theorem row_count (p : S47 → Bool) (i : Int) (l : List S47) (k : Nat) : ((rowO i l k).filter fun o => p o.s).length = (l.filter p).length := by
  induction l generalizing k with
  | nil => rfl
  | cons x r ih =>
    simp only [rowO, List.filter_cons]
    split <;> simp [ih]
theorem occ_count (p : S47 → Bool) (ls : List S44) : ((occs ls).filter fun o => p o.s).length = many_p p ls := by
  have key : ∀ (ls : List S44) (i : Nat), ((objO ls i).filter fun o => p o.s).length = many_p p ls := by
    intro ls
    induction ls with
    | nil => intro i; rfl
    | cons x r ih =>
      intro i
      simp only [objO, List.filter_append, List.length_append, row_count, ih, many_p, List.map_cons, List.sum_cons]
  exact key ls 0
theorem sum_rev (l : List Nat) : l.reverse.sum = l.sum := by
  induction l with
  | nil => rfl
  | cons x r ih => rw [List.reverse_cons, List.sum_append, ih]; simp; omega
theorem count_rev (p : S47 → Bool) (ls : List S44) : ((occs ls.reverse).filter fun o => p o.s).length = ((occs ls).filter fun o => p o.s).length := by
  rw [occ_count, occ_count]
  unfold many_p
  rw [List.map_reverse, sum_rev]
/-- What matches a name and a kind. -/
def isK (n : ByteArray) (kd : Int) (s : S47) : Bool := decide (s.f0 = n) && decide (kindS s = kd)
theorem find_count (n : ByteArray) (kd : Int) (os : List Occ) : os.length < 9223372036854775806 → (os.foldl (fstep n kd) ⟨-1, 0, -1, 0⟩).n = ((os.filter fun o => isK n kd o.s).length : Int) := by
  refine snoc_ind (P := fun os => os.length < 9223372036854775806 → (os.foldl (fstep n kd) ⟨-1, 0, -1, 0⟩).n = ((os.filter fun o => isK n kd o.s).length : Int)) (fun _ => rfl) (fun l o ih hl => ?_) os
  rw [List.length_append] at hl
  have hl1 : l.length + 1 < 9223372036854775806 := hl
  have h := ih (by omega)
  have hle : (l.filter fun o => isK n kd o.s).length ≤ l.length := List.length_filter_le _ _
  rw [List.foldl_append, List.filter_append, List.length_append]
  simp only [List.foldl_cons, List.foldl_nil]
  obtain ⟨f, hf⟩ : ∃ f, l.foldl (fstep n kd) ⟨-1, 0, -1, 0⟩ = f := ⟨_, rfl⟩
  rw [hf] at h ⊢
  unfold fstep
  have hw : wrap64 (f.n + 1) = f.n + 1 := by unfold wrap64; omega
  by_cases hc : o.s.f0 = n ∧ kindS o.s = kd
  · have hb : isK n kd o.s = true := by unfold isK; simp [hc.1, hc.2]
    rw [if_pos hc, hw]
    simp only [List.filter_cons, hb, if_true, List.filter_nil, List.length_singleton]
    split <;> simp only <;> omega
  · have hb : isK n kd o.s = false := by
      unfold isK
      by_cases h1 : o.s.f0 = n
      · have h2 : ¬ kindS o.s = kd := fun e => hc ⟨h1, e⟩
        simp [h2]
      · simp [h1]
    rw [if_neg hc]
    simp only [List.filter_cons, hb, List.filter_nil, List.length_nil]
    rw [h]
    simp
end Go.Proofs.Ytchkjfokoenlnaa.Sym

/- What is found in the objects in the other order. No program in sight. -/
namespace Go.Proofs.Ytchkjfokoenlnaa.Sym
open Go.RowKit Go.Proofs.YtchkjfokoenlnaaW.PrintWords Go.Proofs.YtchkjfokoenlnaaW.PrintLast Go.Proofs.Ytchkjfokoenlnaa.QSy
set_option linter.unusedVariables false
set_option linter.unusedSimpArgs false
theorem uniq_of {os : List Occ} {p : Occ → Bool} (h : (os.filter p).length ≤ 1) {x y : Occ} (hx : x ∈ os) (px : p x = true) (hy : y ∈ os) (py : p y = true) : x = y := by
  have h1 : x ∈ os.filter p := List.mem_filter.2 ⟨hx, px⟩
  have h2 : y ∈ os.filter p := List.mem_filter.2 ⟨hy, py⟩
  match hl : os.filter p, h with
  | [], _ => rw [hl] at h1; cases h1
  | [a], _ => rw [hl] at h1 h2; rw [List.mem_singleton.1 h1, List.mem_singleton.1 h2]
theorem cnt_rev (ls : List S44) : cnt ls.reverse = cnt ls := by
  unfold cnt
  rw [List.map_reverse, sum_rev]
theorem find_rev (ls : List S44) (hc : cnt ls ≤ 1048576) (n : ByteArray) (kd : Int) :
    (findS ls.reverse n kd).n = (findS ls n kd).n ∧ ((findS ls n kd).n = 1 → (findS ls.reverse n kd).a = (ls.length : Int) - 1 - (findS ls n kd).a ∧ 0 ≤ (findS ls n kd).a ∧ (findS ls n kd).a < ls.length ∧ (findS ls.reverse n kd).b = (findS ls n kd).b ∧ (findS ls.reverse n kd).c = (findS ls n kd).c) := by
  have hl : (occs ls).length < 9223372036854775806 := by rw [occs_len]; omega
  have hl2 : (occs ls.reverse).length < 9223372036854775806 := by rw [occs_len, cnt_rev]; omega
  have e1 : (findS ls n kd).n = _ := find_count n kd (occs ls) hl
  have e2 : (findS ls.reverse n kd).n = _ := find_count n kd (occs ls.reverse) hl2
  rw [count_rev] at e2
  refine ⟨by rw [e1, e2], fun h1 => ?_⟩
  have hone : ((occs ls).filter fun o => isK n kd o.s).length ≤ 1 := by rw [e1] at h1; omega
  have F1 : Found (occs ls) n kd (findS ls n kd) := found n kd (occs ls) hl
  have F2 : Found (occs ls.reverse) n kd (findS ls.reverse n kd) := found n kd (occs ls.reverse) hl2
  have hn2 : (findS ls.reverse n kd).n = 1 := by rw [e2, ← e1]; exact h1
  obtain ⟨_, _, F1 | ⟨_, c1, o1, m1, a1, b1, n1, k1⟩⟩ := F1
  · rw [F1.1] at h1; cases h1
  obtain ⟨_, _, F2 | ⟨_, c2, o2, m2, a2, b2, n2, k2⟩⟩ := F2
  · rw [F2.1] at hn2; cases hn2
  have hu : o1 = mir ls o2 := uniq_of (p := fun o => isK n kd o.s) hone m1 (by unfold isK; simp [n1, k1]) (occs_back ls o2 m2) (by unfold isK mir; simp [n2, k2])
  have hin := ((occs_mem ls o1).1 m1).1
  rw [← a1, ← a2, ← b1, ← b2, c1, c2, hu]
  rw [hu] at hin
  unfold mir at hin ⊢
  refine ⟨?_, hin.1, hin.2.1, rfl, rfl⟩
  simp only
  omega
theorem asked_any (ls : List S44) (n : ByteArray) : askedS ls n = true ↔ ∃ o ∈ occs ls, askS n o.s = true := by
  unfold askedS
  have key : ∀ (os : List Occ) (b : Bool), os.foldl (fun b o => b || askS n o.s) b = true ↔ (b = true ∨ ∃ o ∈ os, askS n o.s = true) := by
    intro os
    induction os with
    | nil => intro b; simp
    | cons x r ih =>
      intro b
      rw [List.foldl_cons, ih]
      simp only [Bool.or_eq_true, List.mem_cons]
      constructor
      · rintro ((h | h) | ⟨o, h1, h2⟩)
        · exact .inl h
        · exact .inr ⟨x, .inl rfl, h⟩
        · exact .inr ⟨o, .inr h1, h2⟩
      · rintro (h | ⟨o, h1 | h1, h2⟩)
        · exact .inl (.inl h)
        · subst h1; exact .inl (.inr h2)
        · exact .inr ⟨o, h1, h2⟩
  rw [key]
  simp
theorem asked_rev (ls : List S44) (n : ByteArray) : askedS ls.reverse n = askedS ls n := by
  rw [Bool.eq_iff_iff, asked_any, asked_any]
  constructor
  · rintro ⟨o, h1, h2⟩
    exact ⟨mir ls o, occs_back ls o h1, h2⟩
  · rintro ⟨o, h1, h2⟩
    exact ⟨mir ls o, occs_mir ls o h1, h2⟩
theorem names_rev (ls : List S44) : namesS ls.reverse = namesS ls := by
  obtain ⟨a1, m1⟩ := names_ok (occs ls)
  obtain ⟨a2, m2⟩ := names_ok (occs ls.reverse)
  refine asc_eq a2 a1 (fun n => ?_)
  refine (m2 n).trans (Iff.trans ?_ (m1 n).symm)
  constructor
  · rintro ⟨o, h1, h2⟩
    exact ⟨mir ls o, occs_back ls o h1, h2⟩
  · rintro ⟨o, h1, h2⟩
    exact ⟨mir ls o, occs_mir ls o h1, h2⟩
end Go.Proofs.Ytchkjfokoenlnaa.Sym

/- Where plain holds, a name has one symbol at most that is weak, and one that is common. No program in sight. -/
namespace Go.Proofs.Ytchkjfokoenlnaa.Sym
open Go.RowKit Go.Proofs.YtchkjfokoenlnaaW.PrintWords Go.Proofs.YtchkjfokoenlnaaW.PrintLast Go.Proofs.Ytchkjfokoenlnaa.QSy
set_option linter.unusedVariables false
set_option linter.unusedSimpArgs false
def pstO (o : Option (List ByteArray)) (c : Occ) : Option (List ByteArray) := pst o c.s
theorem pSym_fold (o : Option (List ByteArray)) (i : Int) (ss : List S47) : ∀ (d j : Nat), j + d = ss.length → (rowO i (ss.drop j) j).foldl pstO (pSym o ss j) = pSym o ss ss.length := by
  intro d
  induction d with
  | zero =>
    intro j hj
    have : j = ss.length := by omega
    subst this
    rw [List.drop_length]; rfl
  | succ d ih =>
    intro j hj
    have hlt : j < ss.length := by omega
    rw [drop_at hlt]
    simp only [rowO, List.foldl_cons]
    rw [← ih (j + 1) (by omega)]
    have hy : ss.getD j z47 = ss[j] := by rw [List.getD_eq_getElem?_getD, List.getElem?_eq_getElem hlt]; rfl
    simp only [pSym, pstO, hy]
theorem pObj_fold (ls : List S44) : pObj ls ls.length = (occs ls).foldl pstO (some []) := by
  have key : ∀ (d i : Nat), i + d = ls.length → (objO (ls.drop i) i).foldl pstO (pObj ls i) = pObj ls ls.length := by
    intro d
    induction d with
    | zero =>
      intro i hi
      have : i = ls.length := by omega
      subst this
      rw [List.drop_length]; rfl
    | succ d ih =>
      intro i hi
      have hlt : i < ls.length := by omega
      rw [drop_at hlt]
      simp only [objO, List.foldl_append]
      rw [← ih (i + 1) (by omega)]
      have hx : ls.getD i z44 = ls[i] := by rw [List.getD_eq_getElem?_getD, List.getElem?_eq_getElem hlt]; rfl
      have := pSym_fold (pObj ls i) i ls[i].f1.f1 ls[i].f1.f1.length 0 (by omega)
      rw [List.drop_zero, show pSym (pObj ls i) ls[i].f1.f1 0 = pObj ls i from rfl] at this
      rw [this]
      simp only [pObj, hx]
  have := key ls.length 0 (by omega)
  rw [List.drop_zero] at this
  exact this.symm
/-- A symbol of the name that plain does not pass over. -/
def low (n : ByteArray) (s : S47) : Bool := decide (s.f0 = n) && !skipB s
theorem plain_inv (os : List Occ) : ∀ ns, os.foldl pstO (some []) = some ns → ∀ n, (os.filter fun o => low n o.s).length = if seenB ns n then 1 else 0 := by
  refine snoc_ind (P := fun os => ∀ ns, os.foldl pstO (some []) = some ns → ∀ n, (os.filter fun o => low n o.s).length = if seenB ns n then 1 else 0) (fun ns h n => ?_) (fun l o ih ns h n => ?_) os
  · cases h; rfl
  · rw [List.foldl_append] at h
    simp only [List.foldl_cons, List.foldl_nil] at h
    rw [List.filter_append, List.length_append]
    cases hf : l.foldl pstO (some []) with
    | none => rw [hf] at h; cases h
    | some ms =>
      rw [hf] at h
      have h0 := ih ms hf
      simp only [pstO, pst] at h
      by_cases hs : skipB o.s = true
      · rw [if_pos hs] at h
        cases h
        have : low n o.s = false := by unfold low; simp [hs]
        simp [List.filter_cons, this, h0 n]
      · rw [if_neg hs] at h
        have hs' : skipB o.s = false := by simpa using hs
        by_cases hse : seenB ms o.s.f0 = true
        · rw [if_pos hse] at h; cases h
        · rw [if_neg hse] at h
          have hse' : seenB ms o.s.f0 = false := by simpa using hse
          cases h
          by_cases hn : o.s.f0 = n
          · subst hn
            have hl : low o.s.f0 o.s = true := by unfold low; simp [hs']
            have h1 := h0 o.s.f0
            rw [hse'] at h1
            have h2 : seenB (ms ++ [o.s.f0]) o.s.f0 = true := by simp [seenB]
            rw [h2, h1]
            simp [List.filter_cons, hl]
          · have hl : low n o.s = false := by unfold low; simp [hn]
            have h2 : seenB (ms ++ [o.s.f0]) n = seenB ms n := by simp [seenB, hn]
            rw [h2, h0 n]
            simp [List.filter_cons, hl]
theorem filter_le {α : Type} {p q : α → Bool} (l : List α) (h : ∀ x ∈ l, p x = true → q x = true) : (l.filter p).length ≤ (l.filter q).length := by
  induction l with
  | nil => simp
  | cons x r ih =>
    have := ih (fun y hy => h y (List.mem_cons_of_mem _ hy))
    simp only [List.filter_cons]
    by_cases hp : p x = true
    · rw [if_pos hp, if_pos (h x (List.mem_cons_self ..) hp)]
      simp only [List.length_cons]; omega
    · rw [if_neg hp]
      split
      · simp only [List.length_cons]; omega
      · exact this
theorem plain_one (ls : List S44) (hc : cnt ls ≤ 1048576) (h : plainS ls = true) (n : ByteArray) (kd : Int) (hk : kd = 1 ∨ kd = 2) : (findS ls n kd).n ≤ 1 := by
  unfold plainS at h
  rw [pObj_fold] at h
  cases hf : (occs ls).foldl pstO (some []) with
  | none => rw [hf] at h; cases h
  | some ns =>
    have h1 := plain_inv (occs ls) ns hf n
    have e1 : (findS ls n kd).n = _ := find_count n kd (occs ls) (by rw [occs_len]; omega)
    have h2 : ((occs ls).filter fun o => isK n kd o.s).length ≤ ((occs ls).filter fun o => low n o.s).length := filter_le _ (fun o _ ho => by
      unfold isK at ho
      unfold low skipB
      simp only [Bool.and_eq_true, decide_eq_true_eq] at ho
      obtain ⟨ho1, ho2⟩ := ho
      unfold kindS rankOf at ho2
      split at ho2
      · omega
      · rename_i h3
        split at ho2
        · omega
        · rename_i h6
          split at ho2
          · rename_i h63
            simp [ho1, h3, h6, h63]
          · split at ho2
            · omega
            · rename_i h31
              simp [ho1, h3, h6, h31])
    rw [e1]
    split at h1 <;> omega
end Go.Proofs.Ytchkjfokoenlnaa.Sym

/- The table of the objects in the other order is the table, mirrored. No program in sight. -/
namespace Go.Proofs.Ytchkjfokoenlnaa.Sym
open Go.RowKit Go.Proofs.YtchkjfokoenlnaaW.PrintWords Go.Proofs.YtchkjfokoenlnaaW.PrintLast Go.Proofs.Ytchkjfokoenlnaa.QSy
set_option linter.unusedVariables false
set_option linter.unusedSimpArgs false
/-- Two targets, but for the objects' numbers. -/
def MirT (L : Nat) (x y : S32) : Prop := (x.f0 < 0 ∧ y = x) ∨ (0 ≤ x.f0 ∧ x.f0 < L ∧ y.f0 = (L : Int) - 1 - x.f0 ∧ y.f1 = x.f1 ∧ y.f2 = x.f2)
theorem best_rev (ls : List S44) (hc : cnt ls ≤ 1048576) (hp : plainS ls = true) (n : ByteArray) (h3 : (findS ls n 3).n ≤ 1) :
    (bestS ls.reverse n).n = (bestS ls n).n ∧ ((bestS ls n).n ≠ 0 → (bestS ls.reverse n).a = (ls.length : Int) - 1 - (bestS ls n).a ∧ 0 ≤ (bestS ls n).a ∧ (bestS ls n).a < ls.length ∧ (bestS ls.reverse n).b = (bestS ls n).b ∧ (bestS ls.reverse n).c = (bestS ls n).c) := by
  have h2 := plain_one ls hc hp n 2 (.inr rfl)
  have h1 := plain_one ls hc hp n 1 (.inl rfl)
  have hpos : ∀ kd, 0 ≤ (findS ls n kd).n := fun kd => by
    have e1 : (findS ls n kd).n = _ := find_count n kd (occs ls) (by rw [occs_len]; omega)
    rw [e1]; omega
  have one : ∀ kd, (findS ls n kd).n ≤ 1 → (findS ls.reverse n kd).n = (findS ls n kd).n ∧ ((findS ls n kd).n ≠ 0 → (findS ls.reverse n kd).a = (ls.length : Int) - 1 - (findS ls n kd).a ∧ 0 ≤ (findS ls n kd).a ∧ (findS ls n kd).a < ls.length ∧ (findS ls.reverse n kd).b = (findS ls n kd).b ∧ (findS ls.reverse n kd).c = (findS ls n kd).c) := fun kd hk =>
    ⟨(find_rev ls hc n kd).1, fun h => (find_rev ls hc n kd).2 (by have := hpos kd; omega)⟩
  unfold bestS
  rw [(one 3 h3).1, (one 2 h2).1]
  split
  · split
    · exact one 1 h1
    · exact one 2 h2
  · exact one 3 h3
theorem tgt_rev (ls : List S44) (hc : cnt ls ≤ 1048576) (hp : plainS ls = true) (own : List ByteArray) (n : ByteArray) (h3 : (findS ls n 3).n ≤ 1) : MirT ls.length (tgtR ls own n) (tgtR ls.reverse own n) := by
  obtain ⟨h1, h2⟩ := best_rev ls hc hp n h3
  unfold tgtR
  rw [h1]
  by_cases hz : (bestS ls n).n = 0
  · have hnz : ¬ ((bestS ls n).n ≠ 0) := fun h => h hz
    rw [if_neg hnz, if_neg hnz]
    left
    by_cases hi : 0 ≤ idxS own n
    · rw [if_pos hi, if_pos hi]
      exact ⟨by simp only; omega, rfl⟩
    · rw [if_neg hi, if_neg hi]
      rcases best_found ls hc n with ⟨_, q⟩ | ⟨q, _⟩
      · rcases best_found ls.reverse (by rw [cnt_rev]; exact hc) n with ⟨_, q2⟩ | ⟨q2, _⟩
        · rw [q, q2]; exact ⟨by simp only; omega, rfl⟩
        · rw [h1] at q2; exact absurd hz q2
      · exact absurd hz q
  · rw [if_pos hz, if_pos hz]
    right
    obtain ⟨a1, a2, a3, a4, a5⟩ := h2 hz
    exact ⟨a2, a3, a1, a4, a5⟩
/-- What the law asks of the two tables. -/
structure Mir (L : Nat) (r q : List S37 × ByteArray × Int) : Prop where
  name : q.2.1 = r.2.1
  err : q.2.2 = r.2.2
  len : q.1.length = r.1.length
  row : ∀ i : Nat, i < r.1.length → (q.1.getD i z37).f0 = (r.1.getD i z37).f0 ∧ MirT L (r.1.getD i z37).f1 (q.1.getD i z37).f1
theorem table_rev (ls : List S44) (hc : cnt ls ≤ 1048576) (hp : plainS ls = true) (own : List ByteArray) : Mir ls.length (tableR ls own) (tableR ls.reverse own) := by
  unfold tableR
  rw [names_rev]
  have e1 : (fun n => decide (1 < (findS ls.reverse n 3).n)) = (fun n => decide (1 < (findS ls n 3).n)) := by
    funext n; rw [(find_rev ls hc n 3).1]
  rw [e1]
  cases hf : (namesS ls).find? (fun n => decide (1 < (findS ls n 3).n)) with
  | some n => exact ⟨rfl, rfl, rfl, fun i hi => absurd hi (Nat.not_lt_zero _)⟩
  | none =>
    have h3 : ∀ n ∈ namesS ls, (findS ls n 3).n ≤ 1 := fun n hn => by
      have := List.find?_eq_none.1 hf n hn
      simp only [decide_eq_true_eq] at this
      omega
    have e2 : (namesS ls).find? (fun n => !okR ls.reverse own n) = (namesS ls).find? (fun n => !okR ls own n) := find_congr (fun n hn => by
      unfold okR
      rw [(best_rev ls hc hp n (h3 n hn)).1, asked_rev])
    simp only [e2]
    cases (namesS ls).find? (fun n => !okR ls own n) with
    | some n => exact ⟨rfl, rfl, rfl, fun i hi => absurd hi (Nat.not_lt_zero _)⟩
    | none =>
      refine ⟨rfl, rfl, by simp, fun i hi => ?_⟩
      simp only [List.length_map] at hi
      simp only [List.getD_eq_getElem?_getD, List.getElem?_map, List.getElem?_eq_getElem hi, Option.map_some, Option.getD_some]
      exact ⟨rfl, tgt_rev ls hc hp own _ (h3 _ (List.getElem_mem hi))⟩
end Go.Proofs.Ytchkjfokoenlnaa.Sym

/- turned's answer: the objects in the other order. -/
namespace Go.Proofs.Ytchkjfokoenlnaa.Sym
open Go.RowKit Go.Proofs.YtchkjfokoenlnaaW.PrintWords Go.Proofs.YtchkjfokoenlnaaW.PrintLast Go.Proofs.Ytchkjfokoenlnaa.QSy
theorem turned_f (ls : List S44) (hl : ls.length ≤ 1048576) : ∃ K, bulwarklaw14_turned.f K ls = some ls.reverse := by
  have key : ∀ (i : Nat), i ≤ ls.length → ∃ K, bulwarklaw14_turned.l0 K ls ((ls.drop i).reverse) ((i : Int) - 1) = some ls.reverse := by
    intro i
    induction i with
    | zero =>
      intro _
      refine ⟨1, ?_⟩
      simp only [bulwarklaw14_turned.l0]
      rw [if_neg (by omega), List.drop_zero]
    | succ i ih =>
      intro hi
      have hlt : i < ls.length := by omega
      obtain ⟨K, hK⟩ := ih (by omega)
      refine ⟨K + 1, ?_⟩
      have e : (((i + 1 : Nat) : Int) - 1) = (i : Int) := by omega
      rw [e]
      have hw : wrap64 ((i : Int) - 1) = (i : Int) - 1 := by unfold wrap64; omega
      have hd : ((ls.drop (i + 1)).reverse).length < 1599289640401 := by
        rw [List.length_reverse, List.length_drop]; omega
      simp only [bulwarklaw14_turned.l0]
      rw [if_pos (by omega), if_pos (by omega), if_pos (by omega), if_pos hd, hw]
      have hx : rd_T44 ls (i : Int) = ls[i] := by
        rw [rd44, List.getD_eq_getElem?_getD, List.getElem?_eq_getElem hlt]; rfl
      rw [hx]
      rw [drop_at hlt, List.reverse_cons] at hK
      exact hK
  unfold bulwarklaw14_turned.f
  have hw : wrap64 ((ls.length : Int) - 1) = (ls.length : Int) - 1 := by unfold wrap64; omega
  obtain ⟨K, hK⟩ := key ls.length (Nat.le_refl _)
  rw [List.drop_length] at hK
  exact ⟨K, by rw [hw]; exact hK⟩
end Go.Proofs.Ytchkjfokoenlnaa.Sym

/- A slice of objects, in every world whose old blocks are the same. -/
namespace Go.Proofs.Ytchkjfokoenlnaa.Sym
open Go.RowKit Go.Proofs.YtchkjfokoenlnaaW.PrintWords Go.Proofs.YtchkjfokoenlnaaW.PrintLast Go.Proofs.YtchkjfokoenlnaaW.PrintMore Go.Proofs.Ytchkjfokoenlnaa.QSy
theorem F_of_C {A : Option Addr} {n : Nat} {ls : List S44} {W : World} (h : Kd.C k44 W A n ls) : Kd.F k44 W (fun _ => True) A n ls := by
  intro W' hW
  have hs : W.heap.size ≤ W'.heap.size := by
    rcases Nat.eq_zero_or_pos W.heap.size with h0 | h0
    · omega
    · have := heap_lt (hW (W.heap.size - 1) trivial (by omega)) (by omega)
      omega
  have hb : Below W.heap.size W { W with heap := W'.heap } := ⟨rfl, rfl, rfl, hs, fun k hk => hW k trivial hk⟩
  have h2 := Kd.C_below h hb
  exact h2
end Go.Proofs.Ytchkjfokoenlnaa.Sym
