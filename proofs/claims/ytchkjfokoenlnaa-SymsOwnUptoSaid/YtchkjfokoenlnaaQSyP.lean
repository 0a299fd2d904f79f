/- The reference's loops over all symbols (printed functions) as folds over the symbols in their order. No program in sight. -/
import Derived.Test.YtchkjfokoenlnaaQSyG1
import Derived.Test.YtchkjfokoenlnaaQSyI
import Derived.Test.YtchkjfokoenlnaaQSyx4
import Derived.Test.YtchkjfokoenlnaaQSyx5
import Derived.Test.YtchkjfokoenlnaaQSyx2
import Derived.Test.YtchkjfokoenlnaaQSyx8
namespace Go.Proofs.Ytchkjfokoenlnaa.Sym
open Go.RowKit Go.Proofs.YtchkjfokoenlnaaW.PrintWords Go.Proofs.YtchkjfokoenlnaaW.PrintLast Go.Proofs.Ytchkjfokoenlnaa.QSy
set_option linter.unusedVariables false
set_option linter.unusedSimpArgs false
/-- A symbol, and where it stands. -/
structure Occ where
  i : Int
  k : Int
  s : S47
def rowO (i : Int) : List S47 → Nat → List Occ
  | [], _ => []
  | x :: r, k => ⟨i, k, x⟩ :: rowO i r (k + 1)
def objO : List S44 → Nat → List Occ
  | [], _ => []
  | x :: r, i => rowO (i : Int) x.f1.f1 0 ++ objO r (i + 1)
/-- All symbols, in their order. -/
def occs (ls : List S44) : List Occ := objO ls 0
theorem drop_at {α : Type} {l : List α} {i : Nat} (h : i < l.length) : l.drop i = l[i] :: l.drop (i + 1) := List.drop_eq_getElem_cons h
/-- Two loops, one in the other, are one fold. -/
theorem nest {σ ρ : Type} (L0 : Nat → Nat → σ → Option ρ) (L1 : Nat → Nat → Nat → σ → Option ρ) (f : σ → Occ → σ) (fin : σ → ρ) (ls : List S44)
    (hend : ∀ s, ∃ K, L0 K ls.length s = some (fin s))
    (hin : ∀ i s r, i < ls.length → (∃ K, L1 K i 0 s = some r) → ∃ K, L0 K i s = some r)
    (hout : ∀ i s r, i < ls.length → (∃ K, L0 K (i + 1) s = some r) → ∃ K, L1 K i ((ls.getD i z44).f1.f1).length s = some r)
    (hstep : ∀ i j s r, i < ls.length → j < ((ls.getD i z44).f1.f1).length → (∃ K, L1 K i (j + 1) (f s ⟨i, j, ((ls.getD i z44).f1.f1).getD j z47⟩) = some r) → ∃ K, L1 K i j s = some r) (s : σ) :
    ∃ K, L0 K 0 s = some (fin ((occs ls).foldl f s)) := by
  have key : ∀ (d i : Nat), i + d = ls.length → ∀ s, ∃ K, L0 K i s = some (fin ((objO (ls.drop i) i).foldl f s)) := by
    intro d
    induction d with
    | zero =>
      intro i hi s
      have : i = ls.length := by omega
      subst this
      rw [List.drop_length]
      exact hend s
    | succ d ih =>
      intro i hi s
      have hlt : i < ls.length := by omega
      have hx : ls.getD i z44 = ls[i] := by rw [List.getD_eq_getElem?_getD, List.getElem?_eq_getElem hlt]; rfl
      rw [drop_at hlt]
      simp only [objO, List.foldl_append]
      refine hin i s _ hlt ?_
      have inner : ∀ (e j : Nat), j + e = (ls[i].f1.f1).length → ∀ s, ∃ K, L1 K i j s = some (fin ((objO (ls.drop (i + 1)) (i + 1)).foldl f ((rowO (i : Int) ((ls[i].f1.f1).drop j) j).foldl f s))) := by
        intro e
        induction e with
        | zero =>
          intro j hj s
          have hjl : j = (ls[i].f1.f1).length := by omega
          rw [hjl, List.drop_length]
          have := hout i s _ hlt (ih (i + 1) (by omega) s)
          rw [hx] at this
          exact this
        | succ e ihe =>
          intro j hj s
          have hjl : j < (ls[i].f1.f1).length := by omega
          rw [drop_at hjl]
          simp only [rowO, List.foldl_cons]
          refine hstep i j s _ hlt (by rw [hx]; exact hjl) ?_
          have hy : (ls.getD i z44).f1.f1.getD j z47 = (ls[i].f1.f1)[j] := by rw [hx, List.getD_eq_getElem?_getD, List.getElem?_eq_getElem hjl]; rfl
          rw [hy]
          exact ihe (j + 1) (by omega) _
      have := inner (ls[i].f1.f1).length 0 (by omega) s
      simpa using this
  have := key ls.length 0 (by omega) s
  unfold occs
  simpa using this
theorem cnt_cons (x : S44) (r : List S44) : cnt (x :: r) = x.f1.f1.length + cnt r := by unfold cnt; simp
/-- .. with what holds of the state behind so many. -/
theorem nestI {σ ρ : Type} (L0 : Nat → Nat → σ → Option ρ) (L1 : Nat → Nat → Nat → σ → Option ρ) (f : σ → Occ → σ) (Inv : σ → Nat → Prop) (fin : σ → ρ) (ls : List S44)
    (hinv : ∀ s m o, Inv s m → Inv (f s o) (m + 1))
    (hend : ∀ s, ∃ K, L0 K ls.length s = some (fin s))
    (hin : ∀ i s r, i < ls.length → (∃ K, L1 K i 0 s = some r) → ∃ K, L0 K i s = some r)
    (hout : ∀ i s r, i < ls.length → (∃ K, L0 K (i + 1) s = some r) → ∃ K, L1 K i ((ls.getD i z44).f1.f1).length s = some r)
    (hstep : ∀ i j s r m, Inv s m → m < cnt ls → i < ls.length → j < ((ls.getD i z44).f1.f1).length → (∃ K, L1 K i (j + 1) (f s ⟨i, j, ((ls.getD i z44).f1.f1).getD j z47⟩) = some r) → ∃ K, L1 K i j s = some r) (s : σ) (h0 : Inv s 0) :
    ∃ K, L0 K 0 s = some (fin ((occs ls).foldl f s)) := by
  have key : ∀ (d i : Nat), i + d = ls.length → ∀ s m, Inv s m → m + cnt (ls.drop i) = cnt ls → ∃ K, L0 K i s = some (fin ((objO (ls.drop i) i).foldl f s)) := by
    intro d
    induction d with
    | zero =>
      intro i hi s m hm hc
      have : i = ls.length := by omega
      subst this
      rw [List.drop_length]
      exact hend s
    | succ d ih =>
      intro i hi s m hm hc
      have hlt : i < ls.length := by omega
      have hx : ls.getD i z44 = ls[i] := by rw [List.getD_eq_getElem?_getD, List.getElem?_eq_getElem hlt]; rfl
      rw [drop_at hlt, cnt_cons] at hc
      rw [drop_at hlt]
      simp only [objO, List.foldl_append]
      refine hin i s _ hlt ?_
      have inner : ∀ (e j : Nat), j + e = (ls[i].f1.f1).length → ∀ s m, Inv s m → m + e + cnt (ls.drop (i + 1)) = cnt ls → ∃ K, L1 K i j s = some (fin ((objO (ls.drop (i + 1)) (i + 1)).foldl f ((rowO (i : Int) ((ls[i].f1.f1).drop j) j).foldl f s))) := by
        intro e
        induction e with
        | zero =>
          intro j hj s m hm hc
          have hjl : j = (ls[i].f1.f1).length := by omega
          rw [hjl, List.drop_length]
          have := hout i s _ hlt (ih (i + 1) (by omega) s m hm (by omega))
          rw [hx] at this
          exact this
        | succ e ihe =>
          intro j hj s m hm hc
          have hjl : j < (ls[i].f1.f1).length := by omega
          rw [drop_at hjl]
          simp only [rowO, List.foldl_cons]
          refine hstep i j s _ m hm (by omega) hlt (by rw [hx]; exact hjl) ?_
          have hy : (ls.getD i z44).f1.f1.getD j z47 = (ls[i].f1.f1)[j] := by rw [hx, List.getD_eq_getElem?_getD, List.getElem?_eq_getElem hjl]; rfl
          rw [hy]
          exact ihe (j + 1) (by omega) _ (m + 1) (hinv _ _ _ hm) (by omega)
      have := inner (ls[i].f1.f1).length 0 (by omega) s m hm (by omega)
      simpa using this
  have := key ls.length 0 (by omega) s 0 h0 (by simp)
  unfold occs
  simpa using this
/-- Every list of symbols is of a length that a slice has. -/
def LenOk (ls : List S44) : Prop := ls.length ≤ 9223372036854775807 ∧ ∀ i, ((ls.getD i z44).f1.f1).length ≤ 9223372036854775807
theorem wrap_succ {i n : Nat} (h : i < n) (hn : n ≤ 9223372036854775807) : wrap64 ((i : Int) + 1) = ((i + 1 : Nat) : Int) := by unfold wrap64; omega
theorem rd44 (ls : List S44) (i : Nat) : rd_T44 ls (i : Int) = ls.getD i z44 := by unfold rd_T44; rw [Int.toNat_natCast]
theorem rd47 (ss : List S47) (j : Nat) : rd_T47 ss (j : Int) = ss.getD j z47 := by unfold rd_T47; rw [Int.toNat_natCast]
/-! ### find -/
structure FS where
  a : Int
  b : Int
  c : Int
  n : Int
def kindS (s : S47) : Int := if s.f3 = 0 then -1 else rankOf s
theorem kind_f (y : S47) : bulwarkref14_kind.f y.f0 y.f1 y.f2 y.f3 y.f4 y.f5 y.f6 = some (kindS y) := by
  unfold bulwarkref14_kind.f kindS rankOf
  split
  · rfl
  · split
    · rfl
    · split
      · rfl
      · split <;> rfl
def fstep (name : ByteArray) (kd : Int) (st : FS) (o : Occ) : FS :=
  if o.s.f0 = name ∧ kindS o.s = kd then (if st.n = 0 then ⟨o.i, o.k, -1, wrap64 (st.n + 1)⟩ else ⟨st.a, st.b, st.c, wrap64 (st.n + 1)⟩) else st
def findS (ls : List S44) (name : ByteArray) (kd : Int) : FS := (occs ls).foldl (fstep name kd) ⟨-1, 0, -1, 0⟩
theorem find_f (ls : List S44) (hl : LenOk ls) (name : ByteArray) (kd : Int) : ∃ K, bulwarkref14_find.f K ls name kd = some ((findS ls name kd).a, (findS ls name kd).b, (findS ls name kd).c, (findS ls name kd).n) := by
  unfold bulwarkref14_find.f findS
  refine nest (fun K i (s : FS) => bulwarkref14_find.l0 K ls name kd s.n (i : Int) s.a s.b s.c) (fun K i j (s : FS) => bulwarkref14_find.l1 K ls name kd s.n (i : Int) (j : Int) s.a s.b s.c) (fstep name kd) (fun s => (s.a, s.b, s.c, s.n)) ls ?_ ?_ ?_ ?_ ⟨-1, 0, -1, 0⟩
  · intro s
    refine ⟨1, ?_⟩
    simp only [bulwarkref14_find.l0]
    rw [if_neg (by omega)]
  · intro i s r hi ⟨K, h⟩
    refine ⟨K + 1, ?_⟩
    simp only [bulwarkref14_find.l0]
    rw [if_pos (by omega)]
    exact h
  · intro i s r hi ⟨K, h⟩
    refine ⟨K + 1, ?_⟩
    simp only [bulwarkref14_find.l1, rd44]
    rw [if_pos (by omega), if_pos (by omega), if_neg (by omega), wrap_succ hi hl.1]
    exact h
  · intro i j s r hi hj ⟨K, h⟩
    have hw := wrap_succ hj (hl.2 i)
    refine ⟨K + 2, ?_⟩
    simp only [bulwarkref14_find.l1, rd44, rd47]
    rw [if_pos (by omega), if_pos (by omega), if_pos (by omega), if_pos (by omega)]
    generalize (ls.getD i z44).f1.f1.getD j z47 = y at h ⊢
    simp only [fstep] at h
    by_cases hn : y.f0 = name
    · rw [if_pos (by rw [hn]), kind_f]
      simp only [Option.bind_some, bulwarkref14_find.j2]
      by_cases hk : kindS y = kd
      · rw [if_pos ⟨hn, hk⟩] at h
        rw [if_pos (by rw [hk]; simp), hw]
        by_cases h0 : s.n = 0
        · rw [if_pos h0] at h; rw [if_pos h0]; exact h
        · rw [if_neg h0] at h; rw [if_neg h0]; exact h
      · rw [if_neg (fun c => hk c.2)] at h
        rw [if_neg (by simpa using hk), hw]
        exact h
    · rw [if_neg (fun c => hn c.1)] at h
      rw [if_neg (fun c => hn (toList_eq.1 c))]
      simp only [bulwarkref14_find.j2]
      rw [if_neg (by simp), hw]
      exact h
/-! ### asked -/
def askS (name : ByteArray) (s : S47) : Bool := decide (s.f0 = name) && (decide (s.f3 = 1) && decide (s.f6 = -1))
def askedS (ls : List S44) (name : ByteArray) : Bool := (occs ls).foldl (fun b o => b || askS name o.s) false
theorem asked_f (ls : List S44) (hl : LenOk ls) (name : ByteArray) : ∃ K, bulwarkref14_asked.f K ls name = some (askedS ls name) := by
  unfold bulwarkref14_asked.f askedS
  have := nest (fun K i (b : Bool) => if b then some true else bulwarkref14_asked.l0 K ls name (i : Int)) (fun K i j (b : Bool) => if b then some true else bulwarkref14_asked.l1 K ls name (i : Int) (j : Int)) (fun b o => b || askS name o.s) (fun b => b) ls ?_ ?_ ?_ ?_ false
  · simpa using this
  · intro b
    cases b with
    | true => exact ⟨0, rfl⟩
    | false =>
      refine ⟨1, ?_⟩
      simp only [bulwarkref14_asked.l0]
      rw [if_neg (by simp), if_neg (by omega)]
  · intro i b r hi ⟨K, h⟩
    cases b with
    | true => exact ⟨K, h⟩
    | false =>
      refine ⟨K + 1, ?_⟩
      simp only [bulwarkref14_asked.l0] at h ⊢
      rw [if_neg (by simp)] at h
      rw [if_neg (by simp), if_pos (by omega)]
      exact h
  · intro i b r hi ⟨K, h⟩
    cases b with
    | true => exact ⟨K, h⟩
    | false =>
      refine ⟨K + 1, ?_⟩
      simp only [bulwarkref14_asked.l1, rd44] at h ⊢
      rw [if_neg (by simp)] at h
      rw [if_neg (by simp), if_pos (by omega), if_pos (by omega), if_neg (by omega), wrap_succ hi hl.1]
      exact h
  · intro i j b r hi hj ⟨K, h⟩
    cases b with
    | true => exact ⟨K, by simpa using h⟩
    | false =>
      refine ⟨K + 1, ?_⟩
      have hw := wrap_succ hj (hl.2 i)
      simp only [bulwarkref14_asked.l1, rd44, rd47]
      rw [if_neg (by simp), if_pos (by omega), if_pos (by omega), if_pos (by omega), if_pos (by omega)]
      generalize (ls.getD i z44).f1.f1.getD j z47 = y at h ⊢
      simp only [Bool.false_or, askS] at h
      by_cases hn : y.f0 = name
      · rw [if_pos (by rw [hn])]
        by_cases h1 : y.f3 = 1
        · rw [if_pos h1]
          by_cases h6 : y.f6 = -1
          · rw [if_pos h6]
            simp [hn, h1, h6] at h
            rw [h]
          · rw [if_neg h6, hw]
            simp [hn, h1, h6] at h
            exact h
        · rw [if_neg h1, hw]
          simp [h1] at h
          exact h
      · rw [if_neg (fun c => hn (toList_eq.1 c)), hw]
        simp [hn] at h
        exact h
/-! ### many -/
theorem many_f (ls : List S44) (hl : LenOk ls) (hc : cnt ls ≤ 9223372036854775807) : ∃ K, bulwarklaw14_many.f K ls = some (decide (400 < cnt ls)) := by
  unfold bulwarklaw14_many.f
  have key : ∀ (d i m : Nat), i + d = ls.length → m + cnt (ls.drop i) = cnt ls → ∃ K, bulwarklaw14_many.l0 K ls (m : Int) (i : Int) = some (decide (400 < cnt ls)) := by
    intro d
    induction d with
    | zero =>
      intro i m hi hm
      refine ⟨1, ?_⟩
      simp only [bulwarklaw14_many.l0]
      rw [if_neg (by omega)]
      rw [List.drop_of_length_le (by omega)] at hm
      simp [cnt] at hm
      congr 1
      rw [decide_eq_decide]
      unfold cnt
      omega
    | succ d ih =>
      intro i m hi hm
      have hlt : i < ls.length := by omega
      rw [drop_at hlt, cnt_cons] at hm
      obtain ⟨K, hK⟩ := ih (i + 1) (m + ls[i].f1.f1.length) (by omega) (by omega)
      refine ⟨K + 1, ?_⟩
      simp only [bulwarklaw14_many.l0, rd44]
      rw [if_pos (by omega), if_pos (by omega), wrap_succ hlt hl.1]
      have hx : ls.getD i z44 = ls[i] := by rw [List.getD_eq_getElem?_getD, List.getElem?_eq_getElem hlt]; rfl
      have hw : wrap64 ((m : Int) + (ls[i].f1.f1.length : Int)) = ((m + ls[i].f1.f1.length : Nat) : Int) := by unfold wrap64; omega
      rw [hx, hw]
      exact hK
  exact key ls.length 0 0 (by omega) (by simp)
end Go.Proofs.Ytchkjfokoenlnaa.Sym
