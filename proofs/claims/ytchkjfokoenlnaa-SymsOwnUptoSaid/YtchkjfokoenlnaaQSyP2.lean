/- The reference's names and Table (printed functions): the names in order, tableR. No program in sight. -/
import Derived.Test.YtchkjfokoenlnaaQSyP
import Derived.Test.YtchkjfokoenlnaaQSySrt
import Derived.Test.YtchkjfokoenlnaaQSyx6
namespace Go.Proofs.Ytchkjfokoenlnaa.Sym
open Go.RowKit Go.Proofs.YtchkjfokoenlnaaW.PrintWords Go.Proofs.YtchkjfokoenlnaaW.PrintLast Go.Proofs.Ytchkjfokoenlnaa.QSy
set_option linter.unusedVariables false
set_option linter.unusedSimpArgs false
theorem less_cmp (a b : List UInt8) : Op.bytesLess a b = decide (Lib.compareBytes a b < 0) := by
  induction a generalizing b with
  | nil => cases b <;> simp [Op.bytesLess, Lib.compareBytes]
  | cons x a ih =>
    cases b with
    | nil => simp [Op.bytesLess, Lib.compareBytes]
    | cons y b =>
      simp only [Op.bytesLess, Lib.compareBytes]
      by_cases h : x < y
      · simp [h]
      · by_cases h2 : y < x
        · have h3 : (x == y) = false := by
            rw [beq_eq_false_iff_ne]; intro e; rw [e] at h2; exact absurd h2 (UInt8.lt_irrefl _)
          simp [h, h2, h3]
        · have h3 : x = y := by
            rw [UInt8.lt_iff_toNat_lt] at h h2
            exact UInt8.toNat_inj.1 (by omega)
          subst h3
          simp [h, ih]
theorem less_ltN (a b : ByteArray) : Op.bytesLess a.toList b.toList = ltN a b := by
  rw [less_cmp, ByteArray.toList_eq, ByteArray.toList_eq]; rfl
/-- A name put among names, in their order, once. -/
def insN : List ByteArray → ByteArray → List ByteArray
  | [], n => [n]
  | x :: r, n => if ltN x n then x :: insN r n else if x = n then x :: r else n :: x :: r
def nstep (acc : List ByteArray) (o : Occ) : List ByteArray := if o.s.f3 = 0 then acc else insN acc o.s.f0
def namesS (ls : List S44) : List ByteArray := (occs ls).foldl nstep []
theorem insN_len (acc : List ByteArray) (n : ByteArray) : (insN acc n).length ≤ acc.length + 1 := by
  induction acc with
  | nil => simp [insN]
  | cons x r ih =>
    simp only [insN]
    split
    · simp only [List.length_cons]; omega
    · split <;> simp
theorem rdOf_at (xs : List ByteArray) (p : Nat) (h : p < xs.length) : rdOf ByteArray.empty xs (p : Int) = xs[p] := by
  unfold rdOf
  rw [Int.toNat_natCast, List.getD_eq_getElem?_getD, List.getElem?_eq_getElem h]; rfl
theorem names_l2 (ls : List S44) (acc : List ByteArray) (i j : Nat) (y : S47) (r : List ByteArray) (hacc : acc.length < 1048577) (hw : wrap64 ((j : Int) + 1) = ((j + 1 : Nat) : Int))
    (h : ∃ K, bulwarkref14_names.l1 K ls (insN acc y.f0) (i : Int) ((j + 1 : Nat) : Int) = some r) :
    ∀ (d p : Nat), p + d = acc.length → insN acc y.f0 = acc.take p ++ insN (acc.drop p) y.f0 → ∃ K, bulwarkref14_names.l2 K ls acc (i : Int) (j : Int) (p : Int) y.f0 y.f1 y.f2 y.f3 y.f4 y.f5 y.f6 = some r := by
  obtain ⟨K, h⟩ := h
  intro d
  induction d with
  | zero =>
    intro p hp he
    have hpl : p = acc.length := by omega
    subst hpl
    refine ⟨K + 1, ?_⟩
    rw [List.take_length, List.drop_length] at he
    simp only [insN] at he
    simp only [bulwarkref14_names.l2]
    rw [if_neg (by omega), if_pos (by omega), if_pos (by omega)]
    simp only [Option.bind_some, Int.toNat_natCast, List.take_length, List.drop_length, List.nil_append, List.append_nil, List.length_append, List.length_singleton, List.length_nil]
    rw [if_pos (by omega), if_pos (by omega), if_pos (by omega), hw, ← he]
    exact h
  | succ d ih =>
    intro p hp he
    have hpl : p < acc.length := by omega
    rw [List.drop_eq_getElem_cons hpl] at he
    by_cases h1 : ltN acc[p] y.f0 = true
    · simp only [insN] at he
      rw [if_pos h1] at he
      obtain ⟨K2, h2⟩ := ih (p + 1) (by omega) (by rw [he, List.take_succ_eq_append_getElem hpl, List.append_assoc]; rfl)
      refine ⟨K2 + 1, ?_⟩
      simp only [bulwarkref14_names.l2]
      rw [if_pos (by omega), if_pos (by omega), rdOf_at acc p hpl, less_ltN, if_pos h1, wrap_succ hpl (by omega)]
      exact h2
    · by_cases h2 : acc[p] = y.f0
      · simp only [insN] at he
        rw [if_neg h1, if_pos h2, ← List.drop_eq_getElem_cons hpl, List.take_append_drop] at he
        refine ⟨K + 1, ?_⟩
        simp only [bulwarkref14_names.l2]
        rw [if_pos (by omega), if_pos (by omega), rdOf_at acc p hpl, less_ltN, if_neg h1, if_pos (by rw [h2]), hw, ← he]
        exact h
      · simp only [insN] at he
        rw [if_neg h1, if_neg h2, ← List.drop_eq_getElem_cons hpl] at he
        refine ⟨K + 1, ?_⟩
        simp only [bulwarkref14_names.l2]
        rw [if_pos (by omega), if_pos (by omega), rdOf_at acc p hpl, less_ltN, if_neg h1, if_neg (fun c => h2 (toList_eq.1 c)), if_pos (by omega)]
        simp only [Option.bind_some, Int.toNat_natCast, List.nil_append, List.length_append, List.length_singleton, List.length_nil, List.length_take, List.length_drop]
        rw [if_pos (by omega), if_pos (by omega), if_pos (by omega), hw]
        have e : (acc.take p ++ [y.f0]) ++ acc.drop p = insN acc y.f0 := by rw [he]; simp
        rw [e]
        exact h
theorem names_f (ls : List S44) (hl : LenOk ls) (hc : cnt ls ≤ 1048576) : ∃ K, bulwarkref14_names.f K ls = some (namesS ls) := by
  unfold bulwarkref14_names.f namesS
  refine nestI (fun K i (s : List ByteArray) => bulwarkref14_names.l0 K ls s (i : Int)) (fun K i j (s : List ByteArray) => bulwarkref14_names.l1 K ls s (i : Int) (j : Int)) nstep (fun s m => s.length ≤ m) (fun s => s) ls ?_ ?_ ?_ ?_ ?_ [] (Nat.le_refl _)
  · intro s m o h
    unfold nstep
    split
    · omega
    · have := insN_len s o.s.f0; omega
  · intro s
    refine ⟨1, ?_⟩
    simp only [bulwarkref14_names.l0]
    rw [if_neg (by omega)]
  · intro i s r hi ⟨K, h⟩
    refine ⟨K + 1, ?_⟩
    simp only [bulwarkref14_names.l0]
    rw [if_pos (by omega)]
    exact h
  · intro i s r hi ⟨K, h⟩
    refine ⟨K + 1, ?_⟩
    simp only [bulwarkref14_names.l1, rd44]
    rw [if_pos (by omega), if_pos (by omega), if_neg (by omega), wrap_succ hi hl.1]
    exact h
  · intro i j s r m hm hmc hi hj h
    have hw := wrap_succ hj (hl.2 i)
    obtain ⟨y, hy⟩ : ∃ y, (ls.getD i z44).f1.f1.getD j z47 = y := ⟨_, rfl⟩
    rw [hy] at h
    simp only [nstep] at h
    by_cases h0 : y.f3 = 0
    · rw [if_pos h0] at h
      obtain ⟨K, h⟩ := h
      refine ⟨K + 1, ?_⟩
      simp only [bulwarkref14_names.l1, rd44, rd47]
      rw [if_pos (by omega), if_pos (by omega), if_pos (by omega), if_pos (by omega), hy, if_pos h0, hw]
      exact h
    · rw [if_neg h0] at h
      obtain ⟨K, hK⟩ := names_l2 ls s i j y r (by omega) hw h s.length 0 (by omega) (by simp)
      refine ⟨K + 1, ?_⟩
      simp only [bulwarkref14_names.l1, rd44, rd47]
      rw [if_pos (by omega), if_pos (by omega), if_pos (by omega), if_pos (by omega), hy, if_neg h0]
      exact hK
/-! ### the reference's table -/
def bestS (ls : List S44) (n : ByteArray) : FS := if (findS ls n 3).n = 0 then (if (findS ls n 2).n = 0 then findS ls n 1 else findS ls n 2) else findS ls n 3
def okR (ls : List S44) (own : List ByteArray) (n : ByteArray) : Bool := decide ((bestS ls n).n ≠ 0) || (decide (0 ≤ idxS own n) || !askedS ls n)
def tgtR (ls : List S44) (own : List ByteArray) (n : ByteArray) : S32 := if (bestS ls n).n ≠ 0 then ⟨(bestS ls n).a, (bestS ls n).b, (bestS ls n).c⟩ else if 0 ≤ idxS own n then ⟨-1, 0, idxS own n⟩ else ⟨(bestS ls n).a, (bestS ls n).b, (bestS ls n).c⟩
def lineR (ls : List S44) (own : List ByteArray) (n : ByteArray) : S37 := ⟨n, tgtR ls own n⟩
def tableR (ls : List S44) (own : List ByteArray) : List S37 × ByteArray × Int :=
  match (namesS ls).find? (fun n => decide (1 < (findS ls n 3).n)) with
  | some n => ([], n, 7)
  | none => match (namesS ls).find? (fun n => !okR ls own n) with
    | some n => ([], n, 6)
    | none => ((namesS ls).map (lineR ls own), ⟨#[]⟩, 0)
theorem fl2 (ls : List S44) (own ns : List ByteArray) (out : List S37) (i n p t0 t1 t2 : Int) (k : Nat) : LeO (bulwarkref14_Table.l2 k ls own ns out i n p t0 t1 t2) (bulwarkref14_Table.l2 (k + 1) ls own ns out i n p t0 t1 t2) := (bulwarkref14_Table.mono_l k).2.2.2.2.1 _ _ _ _ _ _ _ _ _ _
theorem fl1 (ls : List S44) (own ns : List ByteArray) (out : List S37) (i : Int) (k : Nat) : LeO (bulwarkref14_Table.l1 k ls own ns out i) (bulwarkref14_Table.l1 (k + 1) ls own ns out i) := (bulwarkref14_Table.mono_l k).2.1 _ _ _ _ _
theorem fl0 (ls : List S44) (own ns : List ByteArray) (i : Int) (k : Nat) : LeO (bulwarkref14_Table.l0 k ls own ns i) (bulwarkref14_Table.l0 (k + 1) ls own ns i) := (bulwarkref14_Table.mono_l k).1 _ _ _ _
/-- The line is put. -/
theorem put_line (ls : List S44) (own ns : List ByteArray) (out : List S37) (i : Nat) (hi : i < ns.length) (hout : out.length < 1048577) (hns : ns.length < 1048577) (n : Int) (hn : n ≠ 0) (p : Nat) (t0 t1 t2 : Int) (r : List S37 × ByteArray × Int)
    (h : ∃ K, bulwarkref14_Table.l1 K ls own ns (out ++ [⟨ns[i], ⟨t0, t1, t2⟩⟩]) ((i + 1 : Nat) : Int) = some r) : ∃ K, bulwarkref14_Table.l2 K ls own ns out (i : Int) n (p : Int) t0 t1 t2 = some r := by
  obtain ⟨K, h⟩ := h
  have hj : bulwarkref14_Table.j5 (K + 1) ls own ns out (i : Int) n (p : Int) false t0 t1 t2 = some r := by
    simp only [bulwarkref14_Table.j5]
    rw [if_neg (by simp), if_neg hn, if_pos (by omega), if_pos (by omega), if_pos (by omega), rdOf_at ns i hi, wrap_succ hi (by omega)]
    exact h
  refine ⟨K + 2, ?_⟩
  simp only [bulwarkref14_Table.l2]
  have hb : (n == 0) = false := beq_eq_false_iff_ne.2 hn
  rw [hb]
  split <;> exact hj
theorem scan_own (ls : List S44) (hl : LenOk ls) (own ns : List ByteArray) (ho : own.length ≤ 9223372036854775807) (out : List S37) (i : Nat) (hi : i < ns.length) (hout : out.length < 1048577) (hns : ns.length < 1048577) (t0 t1 t2 : Int) (r : List S37 × ByteArray × Int) :
    ∀ (d p : Nat), p + d = own.length →
      (if 0 ≤ placeI (fun s => decide (s = ns[i])) (own.drop p) p then ∃ K, bulwarkref14_Table.l1 K ls own ns (out ++ [⟨ns[i], ⟨-1, 0, placeI (fun s => decide (s = ns[i])) (own.drop p) p⟩⟩]) ((i + 1 : Nat) : Int) = some r
        else if askedS ls ns[i] = true then r = ([], ns[i], 6) else ∃ K, bulwarkref14_Table.l1 K ls own ns (out ++ [⟨ns[i], ⟨t0, t1, t2⟩⟩]) ((i + 1 : Nat) : Int) = some r) →
      ∃ K, bulwarkref14_Table.l2 K ls own ns out (i : Int) 0 (p : Int) t0 t1 t2 = some r := by
  intro d
  induction d with
  | zero =>
    intro p hp h
    rw [List.drop_of_length_le (by omega)] at h
    have hz : ¬ 0 ≤ placeI (fun s => decide (s = ns[i])) ([] : List ByteArray) p := by show ¬ (0 : Int) ≤ -1; omega
    rw [if_neg hz] at h
    obtain ⟨Ka, ha⟩ := asked_f ls hl ns[i]
    by_cases hk : askedS ls ns[i] = true
    · rw [if_pos hk] at h
      refine ⟨Ka + 2, ?_⟩
      simp only [bulwarkref14_Table.l2, bulwarkref14_Table.j5]
      rw [if_neg (by omega), if_neg (by simp), if_pos trivial, if_pos (by omega), if_pos (by omega), rdOf_at ns i hi, ha]
      simp only [Option.bind_some]
      rw [if_pos hk, h]
    · rw [if_neg hk] at h
      obtain ⟨K, h⟩ := h
      refine ⟨Ka + K + 2, ?_⟩
      simp only [bulwarkref14_Table.l2, bulwarkref14_Table.j5]
      rw [if_neg (by omega), if_neg (by simp), if_pos trivial, if_pos (by omega), if_pos (by omega), rdOf_at ns i hi, at_rounds (fun k => bulwarkref14_asked.mono ls ns[i] k) (Nat.le_add_right Ka K) ha]
      simp only [Option.bind_some]
      rw [if_neg hk, if_pos (by omega), wrap_succ hi (by omega)]
      exact at_rounds (fl1 _ _ _ _ _) (Nat.le_add_left K Ka) h
  | succ d ih =>
    intro p hp h
    have hpl : p < own.length := by omega
    rw [List.drop_eq_getElem_cons hpl] at h
    by_cases he : own[p] = ns[i]
    · have hz : placeI (fun s => decide (s = ns[i])) (own[p] :: own.drop (p + 1)) p = (p : Int) := by simp [placeI, he]
      rw [hz, if_pos (by omega : (0 : Int) ≤ (p : Int))] at h
      obtain ⟨K, hK⟩ := put_line ls own ns out i hi hout hns 1 (by decide) (p + 1) (-1) 0 (p : Int) r h
      refine ⟨K + 2, ?_⟩
      simp only [bulwarkref14_Table.l2, bulwarkref14_Table.j5]
      rw [if_pos (by omega), if_pos (by rfl), if_pos (by omega), if_pos (by omega), if_pos (by omega), if_pos (by omega), rdOf_at ns i hi, rdOf_at own p hpl, if_pos (by rw [he]), wrap_succ hpl ho]
      exact hK
    · have hz : placeI (fun s => decide (s = ns[i])) (own[p] :: own.drop (p + 1)) p = placeI (fun s => decide (s = ns[i])) (own.drop (p + 1)) (p + 1) := by simp [placeI, he]
      rw [hz] at h
      obtain ⟨K, hK⟩ := ih (p + 1) (by omega) h
      refine ⟨K + 2, ?_⟩
      simp only [bulwarkref14_Table.l2, bulwarkref14_Table.j5]
      rw [if_pos (by omega), if_pos (by rfl), if_pos (by omega), if_pos (by omega), if_pos (by omega), if_pos (by omega), rdOf_at ns i hi, rdOf_at own p hpl, if_neg (fun c => he (toList_eq.1 c)), wrap_succ hpl ho]
      exact hK
theorem lines_l1 (ls : List S44) (hl : LenOk ls) (own ns : List ByteArray) (ho : own.length ≤ 9223372036854775807) (hns : ns.length < 1048577) :
    ∀ (d i : Nat), i + d = ns.length → ∀ (out : List S37), out.length ≤ i →
      ∃ K, bulwarkref14_Table.l1 K ls own ns out (i : Int) = some (match (ns.drop i).find? (fun n => !okR ls own n) with
        | some n => ([], n, 6)
        | none => (out ++ (ns.drop i).map (lineR ls own), ⟨#[]⟩, 0)) := by
  intro d
  induction d with
  | zero =>
    intro i hi out ho
    refine ⟨1, ?_⟩
    simp only [bulwarkref14_Table.l1]
    rw [if_neg (by omega), List.drop_of_length_le (by omega)]
    simp
  | succ d ih =>
    intro i hi out hout
    have hlt : i < ns.length := by omega
    have hdrop := List.drop_eq_getElem_cons hlt
    obtain ⟨r, hr⟩ : ∃ r, (match (ns.drop i).find? (fun n => !okR ls own n) with
        | some n => (([] : List S37), n, (6 : Int))
        | none => (out ++ (ns.drop i).map (lineR ls own), ⟨#[]⟩, 0)) = r := ⟨_, rfl⟩
    rw [hr]
    rw [hdrop] at hr
    -- behind a line that is put
    have hnext : ∀ t : S32, okR ls own ns[i] = true → tgtR ls own ns[i] = t → ∃ K, bulwarkref14_Table.l1 K ls own ns (out ++ [⟨ns[i], t⟩]) ((i + 1 : Nat) : Int) = some r := fun t hok ht => by
      have := ih (i + 1) (by omega) (out ++ [⟨ns[i], t⟩]) (by simp; omega)
      rw [List.find?_cons_of_neg (by simp [hok])] at hr
      rw [← hr]
      obtain ⟨K, hK⟩ := this
      refine ⟨K, hK.trans ?_⟩
      congr 1
      cases (ns.drop (i + 1)).find? (fun n => !okR ls own n) with
      | some n => rfl
      | none =>
        refine Prod.ext ?_ rfl
        show (out ++ [(⟨ns[i], t⟩ : S37)]) ++ _ = out ++ (ns[i] :: ns.drop (i + 1)).map (lineR ls own)
        rw [List.map_cons, List.append_assoc]
        unfold lineR
        rw [ht]; rfl
    obtain ⟨K3, h3⟩ := find_f ls hl ns[i] 3
    obtain ⟨K2, h2⟩ := find_f ls hl ns[i] 2
    obtain ⟨K1, h1⟩ := find_f ls hl ns[i] 1
    -- from the best on
    have hbest : ∃ K, bulwarkref14_Table.l2 K ls own ns out (i : Int) (bestS ls ns[i]).n ((0 : Nat) : Int) (bestS ls ns[i]).a (bestS ls ns[i]).b (bestS ls ns[i]).c = some r := by
      by_cases hb : (bestS ls ns[i]).n = 0
      · rw [hb]
        refine scan_own ls hl own ns ho out i hlt (by omega) hns _ _ _ r own.length 0 (by omega) ?_
        rw [List.drop_zero]
        by_cases hx : 0 ≤ idxS own ns[i]
        · have hx' : 0 ≤ placeI (fun s => decide (s = ns[i])) own 0 := hx
          rw [if_pos hx']
          refine hnext _ (by unfold okR; simp [hx]) ?_
          unfold tgtR
          rw [if_neg (by simp [hb]), if_pos hx]
          rfl
        · have hx' : ¬ 0 ≤ placeI (fun s => decide (s = ns[i])) own 0 := hx
          rw [if_neg hx']
          by_cases hk : askedS ls ns[i] = true
          · rw [if_pos hk]
            rw [List.find?_cons_of_pos (by unfold okR; simp [hb, hx, hk])] at hr
            exact hr.symm
          · rw [if_neg hk]
            refine hnext _ (by unfold okR; simp [hb, hx, hk]) ?_
            unfold tgtR
            rw [if_neg (by simp [hb]), if_neg hx]
      · refine put_line ls own ns out i hlt (by omega) hns _ hb 0 _ _ _ r ?_
        refine hnext _ (by unfold okR; simp [hb]) ?_
        unfold tgtR
        rw [if_pos hb]
    obtain ⟨K4, h4⟩ := hbest
    refine ⟨K1 + K2 + K3 + K4 + 3, ?_⟩
    simp only [bulwarkref14_Table.l1]
    rw [if_pos (by omega), if_pos (by omega), rdOf_at ns i hlt, at_rounds (fun k => bulwarkref14_find.mono ls ns[i] 3 k) (by omega : K3 ≤ K1 + K2 + K3 + K4 + 2) h3]
    simp only [Option.bind_some]
    have fin : ∀ (s : FS), s = bestS ls ns[i] → bulwarkref14_Table.j3 (K1 + K2 + K3 + K4 + 1) ls own ns out (i : Int) s.n s.a s.b s.c = some r := fun s hs => by
      subst hs
      simp only [bulwarkref14_Table.j3]
      exact at_rounds (fl2 _ _ _ _ _ _ _ _ _ _) (by omega : K4 ≤ K1 + K2 + K3 + K4) h4
    by_cases e3 : (findS ls ns[i] 3).n = 0
    · rw [if_pos e3, at_rounds (fun k => bulwarkref14_find.mono ls ns[i] 2 k) (by omega : K2 ≤ K1 + K2 + K3 + K4 + 2) h2]
      simp only [Option.bind_some, bulwarkref14_Table.j2]
      by_cases e2 : (findS ls ns[i] 2).n = 0
      · rw [if_pos e2, if_pos (by omega), if_pos (by omega), rdOf_at ns i hlt, at_rounds (fun k => bulwarkref14_find.mono ls ns[i] 1 k) (by omega : K1 ≤ K1 + K2 + K3 + K4 + 1) h1]
        simp only [Option.bind_some]
        exact fin (findS ls ns[i] 1) (by unfold bestS; rw [if_pos e3, if_pos e2])
      · rw [if_neg e2]
        exact fin (findS ls ns[i] 2) (by unfold bestS; rw [if_pos e3, if_neg e2])
    · rw [if_neg e3]
      simp only [bulwarkref14_Table.j2]
      rw [if_neg e3]
      exact fin (findS ls ns[i] 3) (by unfold bestS; rw [if_neg e3])
theorem namesS_len (ls : List S44) (hl : LenOk ls) (hc : cnt ls ≤ 1048576) : (namesS ls).length ≤ cnt ls := by
  have key : ∀ (os : List Occ) (acc : List ByteArray), (os.foldl nstep acc).length ≤ acc.length + os.length := by
    intro os
    induction os with
    | nil => intro acc; simp
    | cons o r ih =>
      intro acc
      simp only [List.foldl_cons, List.length_cons]
      have h1 := ih (nstep acc o)
      have h2 : (nstep acc o).length ≤ acc.length + 1 := by
        unfold nstep
        split
        · omega
        · exact insN_len _ _
      omega
  have hlen : ∀ (l : List S44) (i : Nat), (objO l i).length = cnt l := by
    have hrow : ∀ (ss : List S47) (i : Int) (k : Nat), (rowO i ss k).length = ss.length := by
      intro ss
      induction ss with
      | nil => intro i k; rfl
      | cons x r ih => intro i k; simp [rowO, ih]
    intro l
    induction l with
    | nil => intro i; rfl
    | cons x r ih => intro i; rw [cnt_cons]; simp [objO, hrow, ih]
  have := key (occs ls) []
  unfold namesS
  have e : (occs ls).length = cnt ls := hlen ls 0
  simp at this
  omega
theorem table_f (ls : List S44) (hl : LenOk ls) (hc : cnt ls ≤ 1048576) (own : List ByteArray) (ho : own.length ≤ 9223372036854775807) : ∃ K, bulwarkref14_Table.f K ls own = some (tableR ls own) := by
  obtain ⟨Kn, hn⟩ := names_f ls hl hc
  have hlen := namesS_len ls hl hc
  obtain ⟨ns, hns⟩ : ∃ ns, namesS ls = ns := ⟨_, rfl⟩
  unfold tableR
  rw [hns] at hn hlen ⊢
  have key : ∀ (d i : Nat), i + d = ns.length → (∀ j, (h : j < i) → (hj : j < ns.length) → ¬ 1 < (findS ls ns[j] 3).n) →
      ∃ K, bulwarkref14_Table.l0 K ls own ns (i : Int) = some (match (ns.drop i).find? (fun n => decide (1 < (findS ls n 3).n)) with
        | some n => ([], n, 7)
        | none => match ns.find? (fun n => !okR ls own n) with
          | some n => ([], n, 6)
          | none => (ns.map (lineR ls own), ⟨#[]⟩, 0)) := by
    intro d
    induction d with
    | zero =>
      intro i hi _
      obtain ⟨K, hK⟩ := lines_l1 ls hl own ns ho (by omega) ns.length 0 (by omega) [] (by simp)
      refine ⟨K + 1, ?_⟩
      simp only [bulwarkref14_Table.l0]
      rw [if_neg (by omega), List.drop_of_length_le (by omega)]
      rw [List.drop_zero, List.nil_append] at hK
      exact hK
    | succ d ih =>
      intro i hi hlow
      have hlt : i < ns.length := by omega
      rw [List.drop_eq_getElem_cons hlt]
      obtain ⟨K3, h3⟩ := find_f ls hl ns[i] 3
      by_cases h1 : 1 < (findS ls ns[i] 3).n
      · rw [List.find?_cons_of_pos (by simpa using h1)]
        refine ⟨K3 + 1, ?_⟩
        simp only [bulwarkref14_Table.l0]
        rw [if_pos (by omega), if_pos (by omega), rdOf_at ns i hlt, h3]
        simp only [Option.bind_some]
        rw [if_pos h1]
      · rw [List.find?_cons_of_neg (by simpa using h1)]
        obtain ⟨K, hK⟩ := ih (i + 1) (by omega) (fun j hj hjl => by
          rcases Nat.lt_succ_iff_lt_or_eq.1 hj with h | h
          · exact hlow j h hjl
          · subst h; exact h1)
        refine ⟨K3 + K + 1, ?_⟩
        simp only [bulwarkref14_Table.l0]
        rw [if_pos (by omega), if_pos (by omega), rdOf_at ns i hlt, at_rounds (fun k => bulwarkref14_find.mono ls ns[i] 3 k) (Nat.le_add_right K3 K) h3]
        simp only [Option.bind_some]
        rw [if_neg h1, wrap_succ hlt (by omega)]
        exact at_rounds (fl0 _ _ _ _) (Nat.le_add_left K K3) hK
  obtain ⟨K, hK⟩ := key ns.length 0 (by omega) (fun j h => absurd h (Nat.not_lt_zero _))
  refine ⟨Kn + K, ?_⟩
  unfold bulwarkref14_Table.f
  rw [at_rounds (fun k => bulwarkref14_names.mono ls k) (Nat.le_add_right Kn K) hn]
  simp only [Option.bind_some]
  rw [List.drop_zero] at hK
  exact at_rounds (fl0 _ _ _ _) (Nat.le_add_left K Kn) hK
end Go.Proofs.Ytchkjfokoenlnaa.Sym
