/- The reference's Of is ofS; bounds of a list and itself; the two Tables by one name. -/
import Derived.Test.YtchkjfokoenlnaaQSyP3
import Derived.Test.YtchkjfokoenlnaaQSyO
import Derived.Test.YtchkjfokoenlnaaQSyx8
namespace Go.Proofs.Ytchkjfokoenlnaa.Sym
open Go.RowKit Go.Proofs.YtchkjfokoenlnaaW.PrintWords Go.Proofs.YtchkjfokoenlnaaW.PrintLast Go.Proofs.Ytchkjfokoenlnaa.QSy
set_option linter.unusedVariables false
set_option linter.unusedSimpArgs false
def four (r : S32 × Bool) : Int × Int × Int × Bool := (r.1.f0, r.1.f1, r.1.f2, r.2)
def ofT (o : Option S37) : S32 × Bool := match o with
  | none => (⟨0, 0, 0⟩, false)
  | some b => (b.f1, true)
theorem rd37 (t : List S37) (i : Nat) : rd_T37 t (i : Int) = t.getD i z37 := by unfold rd_T37; rw [Int.toNat_natCast]
theorem refOf_l0 (t : List S37) (ht : t.length ≤ 9223372036854775807) (n : ByteArray) (a1 a2 a3 a4 : Int) (a5 : Bool) (a6 : Int) :
    ∀ (d i : Nat), i + d = t.length → ∃ K, bulwarkref14_Of.l0 K t (i : Int) n a1 a2 a3 a4 a5 a6 = some (four (ofT ((t.drop i).find? (fun b => decide (b.f0 = n))))) := by
  intro d
  induction d with
  | zero =>
    intro i hi
    refine ⟨1, ?_⟩
    simp only [bulwarkref14_Of.l0]
    rw [if_neg (by omega), List.drop_of_length_le (by omega)]
    rfl
  | succ d ih =>
    intro i hi
    have hlt : i < t.length := by omega
    obtain ⟨K, hK⟩ := ih (i + 1) (by omega)
    refine ⟨K + 1, ?_⟩
    have hx : t.getD i z37 = t[i] := by rw [List.getD_eq_getElem?_getD, List.getElem?_eq_getElem hlt]; rfl
    simp only [bulwarkref14_Of.l0, rd37, hx]
    rw [if_pos (by omega), if_pos (by omega), wrap_succ hlt ht, drop_at hlt, List.find?_cons]
    by_cases h : t[i].f0 = n
    · rw [if_pos (toList_eq.2 h), decide_eq_true h]; rfl
    · rw [if_neg (fun c => h (toList_eq.1 c)), decide_eq_false h]; exact hK
theorem refOf_f (t : List S37) (ht : t.length ≤ 9223372036854775807) (ls : List S44) (o k : Int) : ∃ K, bulwarkref14_Of.f K t ls o k = some ((ofS t ls o k).1.f0, (ofS t ls o k).1.f1, (ofS t ls o k).1.f2, (ofS t ls o k).2) := by
  unfold bulwarkref14_Of.f
  by_cases h : inO ls o k
  · obtain ⟨h1, h2, h3, h4⟩ := h
    have hin : inO ls o k := ⟨h1, h2, h3, h4⟩
    have hr : rd_T44 ls o = ls.getD o.toNat z44 := rfl
    have hs : rd_T47 (ls.getD o.toNat z44).f1.f1 k = symAt ls o k := rfl
    obtain ⟨K, hK⟩ := refOf_l0 t ht (symAt ls o k).f0 (symAt ls o k).f1 (symAt ls o k).f2 (symAt ls o k).f3 (symAt ls o k).f4 (symAt ls o k).f5 (symAt ls o k).f6 t.length 0 (by omega)
    rw [List.drop_zero] at hK
    refine ⟨K + 1, ?_⟩
    rw [if_neg (by omega), if_neg (by omega), if_neg (by omega), if_pos (by omega), if_pos (by omega), hr, decide_eq_false (by omega)]
    simp only [bulwarkref14_Of.j0]
    rw [if_neg (by simp), if_pos (by omega), if_pos (by omega), if_pos (by omega), hr, if_pos (by omega), hs]
    unfold ofS
    rw [if_pos hin]
    by_cases hb : (symAt ls o k).f3 = 0
    · rw [if_pos hb, if_pos hb]
    · rw [if_neg hb, if_neg hb]
      refine hK.trans ?_
      cases t.find? (fun b => decide (b.f0 = (symAt ls o k).f0)) <;> rfl
  · have hout : ofS t ls o k = (⟨0, 0, 0⟩, false) := by unfold ofS; rw [if_neg h]
    rw [hout]
    refine ⟨1, ?_⟩
    have j : ∀ b, b = true → bulwarkref14_Of.j0 1 t ls o k b = some (0, 0, 0, false) := fun b hb => by
      simp only [bulwarkref14_Of.j0]; rw [if_pos hb]
    rw [j true rfl]
    by_cases h1 : o < 0
    · rw [if_pos h1]
    · rw [if_neg h1]
      by_cases h2 : o ≥ (ls.length : Int)
      · rw [if_pos h2]
      · rw [if_neg h2]
        by_cases h3 : k < 0
        · rw [if_pos h3]
        · rw [if_neg h3, if_pos (by omega), if_pos (by omega), j _ ?_]
          rw [decide_eq_true_iff]
          have hr : rd_T44 ls o = ls.getD o.toNat z44 := rfl
          rw [hr]
          by_cases h4 : k ≥ (((ls.getD o.toNat z44).f1.f1).length : Int)
          · exact h4
          · exact absurd ⟨by omega, by omega, by omega, by omega⟩ h
theorem bounds_self (t : List S37) (ht : t.length ≤ 9223372036854775807) : ∃ K, bulwarklaw14_bounds.f K t t = some true := by
  unfold bulwarklaw14_bounds.f
  have key : ∀ (d i : Nat), i + d = t.length → ∃ K, bulwarklaw14_bounds.l0 K t t (i : Int) = some true := by
    intro d
    induction d with
    | zero =>
      intro i hi
      refine ⟨1, ?_⟩
      simp only [bulwarklaw14_bounds.l0]
      rw [if_neg (by omega)]
    | succ d ih =>
      intro i hi
      have hlt : i < t.length := by omega
      obtain ⟨K, hK⟩ := ih (i + 1) (by omega)
      refine ⟨K + 1, ?_⟩
      simp only [bulwarklaw14_bounds.l0]
      rw [if_pos (by omega), if_pos (by omega), if_pos (by omega), wrap_succ hlt ht, if_neg (by simp)]
      exact hK
  obtain ⟨K, hK⟩ := key t.length 0 (by omega)
  exact ⟨K, by rw [if_pos rfl]; exact hK⟩
/-- syms.Table gives the reference's table. -/
theorem table_said (A : Option Addr) (c : Nat) (ls : List S44) (hc : ls.length ≤ c) (hn : cnt ls ≤ 400) (hno : NamesOk ls) (A1 : Option Addr) (c1 : Nat) (own : List ByteArray) (hc1 : own.length ≤ c1) (w : World) (hr : Kd.C k44 w A ls.length ls) (hr1 : Kd.C Kd.string w A1 own.length own) (r : List S37 × ByteArray × Int) (h : tableR ls own = r) :
    Calls Try.prog 9 #[.slice A ls.length c, .slice A1 own.length c1] w fun e w' => ∃ v, e = .returned (.tuple #[v, .string r.2.1, .int .i64 r.2.2]) ∧ k37.R 37 w' w.heap.size (fun _ => True) v r.1 ∧ Below w.heap.size w w' := by
  have := table_calls A c ls hc hn hno A1 c1 own hc1 w hr hr1
  rw [table_eq ls (by omega) own, h] at this
  exact this
theorem table_ref (A : Option Addr) (c : Nat) (ls : List S44) (hc : ls.length ≤ c) (hn : cnt ls ≤ 400) (hl : LenOk ls) (A1 : Option Addr) (c1 : Nat) (own : List ByteArray) (hc1 : own.length ≤ c1) (w : World) (hr : Kd.C k44 w A ls.length ls) (hr1 : Kd.C Kd.string w A1 own.length own) (r : List S37 × ByteArray × Int) (h : tableR ls own = r) :
    Calls Try.prog 10 #[.slice A ls.length c, .slice A1 own.length c1] w fun e w' => ∃ v, e = .returned (.tuple #[v, .string r.2.1, .int .i64 r.2.2]) ∧ k37.R 37 w' w.heap.size (fun _ => True) v r.1 ∧ Below w.heap.size w w' := by
  obtain ⟨K, hK⟩ := table_f ls hl (by omega) own hr1.2.1
  rw [h] at hK
  exact bulwarkref14_Table.calls K A c ls A1 c1 own r.1 r.2.1 r.2.2 w hr hc hr1 hc1 hK
theorem of_ref (A : Option Addr) (c : Nat) (t : List S37) (hc : t.length ≤ c) (A1 : Option Addr) (c1 : Nat) (ls : List S44) (hc1 : ls.length ≤ c1) (o k : Int) (w : World) (hr : Kd.C k37 w A t.length t) (hr1 : Kd.C k44 w A1 ls.length ls) :
    Calls Try.prog 13 #[.slice A t.length c, .slice A1 ls.length c1, .int .i64 o, .int .i64 k] w fun e w' => e = .returned (.tuple #[.agg #[.int .i64 (ofS t ls o k).1.f0, .int .i64 (ofS t ls o k).1.f1, .int .i64 (ofS t ls o k).1.f2], .bool (ofS t ls o k).2]) ∧ Below w.heap.size w w' := by
  obtain ⟨K, hK⟩ := refOf_f t hr.2.1 ls o k
  exact bulwarkref14_Of.calls K A c t A1 c1 ls o k _ _ _ _ w hr hc hr1 hc1 hK
theorem bounds_same (A : Option Addr) (c : Nat) (A1 : Option Addr) (c1 : Nat) (t : List S37) (hc : t.length ≤ c) (hc1 : t.length ≤ c1) (w : World) (hr : Kd.C k37 w A t.length t) (hr1 : Kd.C k37 w A1 t.length t) :
    Calls Try.prog 11 #[.slice A t.length c, .slice A1 t.length c1] w fun e w' => e = .returned (.bool true) ∧ Drawn0 w w' := by
  obtain ⟨K, hK⟩ := bounds_self t hr.2.1
  exact bulwarklaw14_bounds.calls K A c t A1 c1 t true w hr hc hr1 hc1 hK
theorem many_said (A : Option Addr) (c : Nat) (ls : List S44) (hc : ls.length ≤ c) (hl : LenOk ls) (hn : cnt ls ≤ 9223372036854775807) (w : World) (hr : Kd.C k44 w A ls.length ls) :
    Calls Try.prog 7 #[.slice A ls.length c] w fun e w' => e = .returned (.bool (decide (400 < cnt ls))) ∧ Drawn0 w w' := by
  obtain ⟨K, hK⟩ := many_f ls hl hn
  exact bulwarklaw14_many.calls K A c ls _ w hr hc hK
end Go.Proofs.Ytchkjfokoenlnaa.Sym
