/- What the table of syms holds: its names ascend, each target is one of that name or the linker's or nobody's, each symbol has one. No program in sight. -/
import Derived.Test.YtchkjfokoenlnaaQSyQ
namespace Go.Proofs.Ytchkjfokoenlnaa.Sym
open Go.RowKit Go.Proofs.YtchkjfokoenlnaaW.PrintWords Go.Proofs.YtchkjfokoenlnaaW.PrintLast Go.Proofs.Ytchkjfokoenlnaa.QSy
set_option linter.unusedVariables false
set_option linter.unusedSimpArgs false
theorem rowO_mem (i : Int) (l : List S47) (k : Nat) (o : Occ) : o ∈ rowO i l k ↔ ∃ j, j < l.length ∧ o = ⟨i, ((k + j : Nat) : Int), l.getD j z47⟩ := by
  induction l generalizing k with
  | nil => simp [rowO]
  | cons x r ih =>
    simp only [rowO, List.mem_cons]
    rw [ih]
    constructor
    · rintro (h | ⟨j, h1, h2⟩)
      · exact ⟨0, by simp, by rw [h]; rfl⟩
      · exact ⟨j + 1, by simpa using h1, by rw [h2, show k + 1 + j = k + (j + 1) from by omega]; rfl⟩
    · rintro ⟨j, h1, h2⟩
      cases j with
      | zero => left; rw [h2]; rfl
      | succ j => right; exact ⟨j, by simpa using h1, by rw [h2, show k + 1 + j = k + (j + 1) from by omega]; rfl⟩
theorem objO_mem (ls : List S44) (i : Nat) (o : Occ) : o ∈ objO ls i ↔ ∃ a, a < ls.length ∧ ∃ j, j < ((ls.getD a z44).f1.f1).length ∧ o = ⟨((i + a : Nat) : Int), (j : Int), ((ls.getD a z44).f1.f1).getD j z47⟩ := by
  induction ls generalizing i with
  | nil => simp [objO]
  | cons x r ih =>
    simp only [objO, List.mem_append]
    rw [ih, rowO_mem]
    constructor
    · rintro (⟨j, h1, h2⟩ | ⟨a, h1, j, h2, h3⟩)
      · exact ⟨0, by simp, j, by simpa using h1, by rw [h2]; simp⟩
      · exact ⟨a + 1, by simpa using h1, j, by simpa using h2, by rw [h3, show i + 1 + a = i + (a + 1) from by omega]; rfl⟩
    · rintro ⟨a, h1, j, h2, h3⟩
      cases a with
      | zero => left; exact ⟨j, by simpa using h2, by rw [h3]; simp⟩
      | succ a => right; exact ⟨a, by simpa using h1, j, by simpa using h2, by rw [h3, show i + 1 + a = i + (a + 1) from by omega]; rfl⟩
theorem occs_mem (ls : List S44) (o : Occ) : o ∈ occs ls ↔ inO ls o.i o.k ∧ o.s = symAt ls o.i o.k := by
  unfold occs
  rw [objO_mem]
  constructor
  · rintro ⟨a, h1, j, h2, h3⟩
    subst h3
    refine ⟨⟨by simp, by simp; omega, by simp, ?_⟩, ?_⟩
    · simpa using h2
    · unfold symAt
      simp
  · rintro ⟨⟨h1, h2, h3, h4⟩, h5⟩
    refine ⟨o.i.toNat, by omega, o.k.toNat, by omega, ?_⟩
    cases o with
    | mk i k s =>
      simp only at h1 h2 h3 h4 h5 ⊢
      rw [h5]
      unfold symAt
      congr 1 <;> omega
/-- What was found stands there. -/
def Found (os : List Occ) (n : ByteArray) (kd : Int) (f : FS) : Prop :=
  0 ≤ f.n ∧ f.n ≤ os.length ∧ ((f.n = 0 ∧ f.a = -1 ∧ f.b = 0 ∧ f.c = -1 ∧ ∀ o ∈ os, ¬ (o.s.f0 = n ∧ kindS o.s = kd)) ∨ (f.n ≠ 0 ∧ f.c = -1 ∧ ∃ o ∈ os, o.i = f.a ∧ o.k = f.b ∧ o.s.f0 = n ∧ kindS o.s = kd))
theorem found (n : ByteArray) (kd : Int) (os : List Occ) : os.length < 9223372036854775806 → Found os n kd (os.foldl (fstep n kd) ⟨-1, 0, -1, 0⟩) := by
  refine snoc_ind (P := fun os => os.length < 9223372036854775806 → Found os n kd (os.foldl (fstep n kd) ⟨-1, 0, -1, 0⟩)) (fun _ => ⟨Int.le_refl _, by simp, .inl ⟨rfl, rfl, rfl, rfl, fun o h => by simp at h⟩⟩) (fun l o ih hl => ?_) os
  rw [List.length_append] at hl
  have hl1 : l.length + 1 < 9223372036854775806 := hl
  obtain ⟨h0, h1, h2⟩ := ih (by omega)
  rw [List.foldl_append]
  simp only [List.foldl_cons, List.foldl_nil]
  obtain ⟨f, hf⟩ : ∃ f, l.foldl (fstep n kd) ⟨-1, 0, -1, 0⟩ = f := ⟨_, rfl⟩
  rw [hf] at h0 h1 h2 ⊢
  have hw : wrap64 (f.n + 1) = f.n + 1 := by unfold wrap64; omega
  have hlen : ((l ++ [o]).length : Int) = l.length + 1 := by simp
  unfold Found
  rw [hlen]
  unfold fstep
  by_cases hc : o.s.f0 = n ∧ kindS o.s = kd
  · rw [if_pos hc, hw]
    by_cases hz : f.n = 0
    · rw [if_pos hz]
      refine ⟨by simp only; omega, by simp only; omega, .inr ⟨by simp only; omega, rfl, o, by simp, rfl, rfl, hc.1, hc.2⟩⟩
    · rw [if_neg hz]
      rcases h2 with ⟨h, _⟩ | ⟨_, h3, o2, m2, h4⟩
      · exact absurd h hz
      · exact ⟨by simp only; omega, by simp only; omega, .inr ⟨by simp only; omega, h3, o2, List.mem_append_left _ m2, h4⟩⟩
  · rw [if_neg hc]
    refine ⟨h0, by omega, ?_⟩
    rcases h2 with ⟨h3, h4, h5, h6, h7⟩ | ⟨h3, h4, o2, m2, h5⟩
    · refine .inl ⟨h3, h4, h5, h6, fun x hx => ?_⟩
      rcases List.mem_append.1 hx with h | h
      · exact h7 x h
      · rw [List.mem_singleton.1 h]; exact hc
    · exact .inr ⟨h3, h4, o2, List.mem_append_left _ m2, h5⟩
theorem idxS_cases (own : List ByteArray) (n : ByteArray) : idxS own n = -1 ∨ ∃ j : Nat, idxS own n = (j : Int) ∧ own[j]? = some n := by
  have key : ∀ (l : List ByteArray) (i : Nat), placeI (fun s => decide (s = n)) l i = -1 ∨ ∃ j : Nat, placeI (fun s => decide (s = n)) l i = ((i + j : Nat) : Int) ∧ l[j]? = some n := by
    intro l
    induction l with
    | nil => intro i; exact .inl rfl
    | cons x r ih =>
      intro i
      simp only [placeI]
      by_cases hx : x = n
      · rw [if_pos (by simpa using hx)]
        exact .inr ⟨0, rfl, by rw [hx]; rfl⟩
      · rw [if_neg (by simpa using hx)]
        rcases ih (i + 1) with h | ⟨j, h1, h2⟩
        · exact .inl h
        · exact .inr ⟨j + 1, by rw [h1]; congr 1; omega, by simpa using h2⟩
  rcases key own 0 with h | ⟨j, h1, h2⟩
  · exact .inl h
  · exact .inr ⟨j, by rw [show idxS own n = placeI (fun s => decide (s = n)) own 0 from rfl, h1]; congr 1; omega, h2⟩
/-- A target of the name n. -/
def TgtOk (ls : List S44) (own : List ByteArray) (n : ByteArray) (x : S32) : Prop :=
  (x.f0 < 0 ∧ (x.f2 < 0 ∨ ∃ j : Nat, x.f2 = (j : Int) ∧ own[j]? = some n)) ∨ (inO ls x.f0 x.f1 ∧ (symAt ls x.f0 x.f1).f0 = n ∧ (symAt ls x.f0 x.f1).f3 ≠ 0 ∧ (symAt ls x.f0 x.f1).f6 ≠ -1)
theorem best_found (ls : List S44) (hc : cnt ls ≤ 1048576) (n : ByteArray) : ((bestS ls n).n = 0 ∧ bestS ls n = ⟨-1, 0, -1, 0⟩) ∨ ((bestS ls n).n ≠ 0 ∧ (bestS ls n).c = -1 ∧ inO ls (bestS ls n).a (bestS ls n).b ∧ (symAt ls (bestS ls n).a (bestS ls n).b).f0 = n ∧ (symAt ls (bestS ls n).a (bestS ls n).b).f3 ≠ 0 ∧ (symAt ls (bestS ls n).a (bestS ls n).b).f6 ≠ -1) := by
  have hl : (occs ls).length < 9223372036854775806 := by rw [occs_len]; omega
  have H := fun kd => found n kd (occs ls) hl
  have one : ∀ kd, (kd = 1 ∨ kd = 2 ∨ kd = 3) → ((findS ls n kd).n = 0 ∧ findS ls n kd = ⟨-1, 0, -1, 0⟩) ∨ ((findS ls n kd).n ≠ 0 ∧ (findS ls n kd).c = -1 ∧ inO ls (findS ls n kd).a (findS ls n kd).b ∧ (symAt ls (findS ls n kd).a (findS ls n kd).b).f0 = n ∧ (symAt ls (findS ls n kd).a (findS ls n kd).b).f3 ≠ 0 ∧ (symAt ls (findS ls n kd).a (findS ls n kd).b).f6 ≠ -1) := by
    intro kd hkd
    obtain ⟨h0, h1, h2⟩ := H kd
    have e : findS ls n kd = (occs ls).foldl (fstep n kd) ⟨-1, 0, -1, 0⟩ := rfl
    rw [← e] at h0 h1 h2
    obtain ⟨f, hf⟩ : ∃ f, findS ls n kd = f := ⟨_, rfl⟩
    rw [hf] at h0 h1 h2 ⊢
    rcases h2 with ⟨h3, h4, h5, h6, _⟩ | ⟨h3, h4, o, m, h5, h6, h7, h8⟩
    · left
      refine ⟨h3, ?_⟩
      cases f
      simp only at h3 h4 h5 h6
      rw [h3, h4, h5, h6]
    · right
      obtain ⟨q1, q2⟩ := (occs_mem ls o).1 m
      rw [h5, h6] at q1 q2
      rw [← q2]
      refine ⟨h3, h4, q1, h7, ?_, ?_⟩
      · intro h
        unfold kindS at h8
        rw [if_pos h] at h8
        omega
      · intro h
        unfold kindS rankOf at h8
        rw [if_pos h] at h8
        split at h8 <;> omega
  unfold bestS
  split
  · split
    · exact one 1 (by omega)
    · exact one 2 (by omega)
  · exact one 3 (by omega)
theorem tgtR_ok (ls : List S44) (hc : cnt ls ≤ 1048576) (own : List ByteArray) (n : ByteArray) : TgtOk ls own n (tgtR ls own n) := by
  unfold tgtR TgtOk
  rcases best_found ls hc n with ⟨h1, h2⟩ | ⟨h1, h2, h3⟩
  · rw [if_neg (by rw [h1]; simp)]
    left
    rcases idxS_cases own n with h | ⟨j, h, hj⟩
    · rw [if_neg (by omega), h2]
      exact ⟨by simp only; omega, .inl (by simp only; omega)⟩
    · rw [if_pos (by omega)]
      exact ⟨by simp only; omega, .inr ⟨j, h, hj⟩⟩
  · rw [if_pos h1]
    exact .inr h3
/-- What the law asks of the table. -/
structure Good (ls : List S44) (own : List ByteArray) (t : List S37) : Prop where
  asc : ∀ i : Nat, i + 1 < t.length → ltN (t.getD i z37).f0 (t.getD (i + 1) z37).f0 = true
  tgt : ∀ i : Nat, i < t.length → TgtOk ls own (t.getD i z37).f0 (t.getD i z37).f1
  all : ∀ o k : Int, inO ls o k → (ofS t ls o k).2 = true ∧ ((symAt ls o k).f3 = 0 → (ofS t ls o k).1 = ⟨o, k, -1⟩)
theorem table_good (ls : List S44) (hc : cnt ls ≤ 1048576) (own : List ByteArray) : ((tableR ls own).2.2 ≠ 0 ∧ (tableR ls own).1 = []) ∨ ((tableR ls own).2.2 = 0 ∧ Good ls own (tableR ls own).1) := by
  unfold tableR
  split
  · exact .inl ⟨by simp, rfl⟩
  · split
    · exact .inl ⟨by simp, rfl⟩
    · right
      refine ⟨rfl, ?_⟩
      obtain ⟨hasc, hmem⟩ := names_ok (occs ls)
      have hasc : Asc (namesS ls) := hasc
      have hmem : ∀ n, n ∈ namesS ls ↔ ∃ o ∈ occs ls, isN n o = true := hmem
      have hlen : ((namesS ls).map (lineR ls own)).length = (namesS ls).length := List.length_map _
      have hget : ∀ i, i < (namesS ls).length → ∃ n ∈ namesS ls, (namesS ls)[i]? = some n ∧ ((namesS ls).map (lineR ls own)).getD i z37 = lineR ls own n := fun i hi => by
        refine ⟨(namesS ls)[i], List.getElem_mem hi, List.getElem?_eq_getElem hi, ?_⟩
        rw [List.getD_eq_getElem?_getD, List.getElem?_map, List.getElem?_eq_getElem hi]
        rfl
      refine ⟨fun i hi => ?_, fun i hi => ?_, fun o k hin => ?_⟩
      · show ltN (((namesS ls).map (lineR ls own)).getD i z37).f0 (((namesS ls).map (lineR ls own)).getD (i + 1) z37).f0 = true
        have hi : i + 1 < ((namesS ls).map (lineR ls own)).length := hi
        rw [hlen] at hi
        obtain ⟨n, _, g1, h1⟩ := hget i (by omega)
        obtain ⟨m, _, g2, h2⟩ := hget (i + 1) hi
        rw [h1, h2]
        have := List.pairwise_iff_getElem.1 hasc i (i + 1) (by omega) hi (by omega)
        rw [List.getElem?_eq_getElem (by omega)] at g1 g2
        rw [Option.some.inj g1, Option.some.inj g2] at this
        exact this
      · show TgtOk ls own (((namesS ls).map (lineR ls own)).getD i z37).f0 (((namesS ls).map (lineR ls own)).getD i z37).f1
        have hi : i < ((namesS ls).map (lineR ls own)).length := hi
        rw [hlen] at hi
        obtain ⟨n, _, _, h1⟩ := hget i hi
        rw [h1]
        exact tgtR_ok ls hc own n
      · unfold ofS
        rw [if_pos hin]
        by_cases hz : (symAt ls o k).f3 = 0
        · rw [if_pos hz]
          exact ⟨rfl, fun _ => rfl⟩
        · rw [if_neg hz]
          refine ⟨?_, fun h => absurd h hz⟩
          have hm : (symAt ls o k).f0 ∈ namesS ls := (hmem _).2 ⟨⟨o, k, symAt ls o k⟩, (occs_mem ls _).2 ⟨hin, rfl⟩, by unfold isN; simp [hz]⟩
          have hs : ∃ b, ((namesS ls).map (lineR ls own)).find? (fun b : S37 => decide (b.f0 = (symAt ls o k).f0)) = some b := by
            cases hf : ((namesS ls).map (lineR ls own)).find? (fun b : S37 => decide (b.f0 = (symAt ls o k).f0)) with
            | some b => exact ⟨b, rfl⟩
            | none =>
              have := List.find?_eq_none.1 hf (lineR ls own (symAt ls o k).f0) (List.mem_map_of_mem hm)
              simp [lineR] at this
          obtain ⟨b, hb⟩ := hs
          show (match ((namesS ls).map (lineR ls own)).find? (fun b : S37 => decide (b.f0 = (symAt ls o k).f0)) with
            | none => ((⟨0, 0, 0⟩ : S32), false)
            | some b => (b.f1, true)).2 = true
          rw [hb]
end Go.Proofs.Ytchkjfokoenlnaa.Sym
