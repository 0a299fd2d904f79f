/- A map of names to bools: the names that were seen. -/
import Derived.Test.YtchkjfokoenlnaaQSyG0
import Derived.Test.YtchkjfokoenlnaaQSyP
namespace Go.Proofs.Ytchkjfokoenlnaa.Sym
open Go.RowKit Go.Maps Go.WideMaps Go.Proofs.YtchkjfokoenlnaaW.PrintWords Go.Proofs.YtchkjfokoenlnaaW.PrintLast Go.Proofs.Ytchkjfokoenlnaa.QSy
set_option linter.unusedVariables false
def belem (v : Value) : Option (DataW Unit × List MemPlace) :=
  match v with
  | .bool b => some (.lit (.bool b), [])
  | _ => none
theorem belem_bool {v : Value} {ps : List MemPlace} {b : Bool} (h : belem v = some (.lit (.bool b), ps)) : v = .bool b := by
  unfold belem at h
  split at h
  · rename_i c
    simp at h
    rw [h.1]
  · cases h
theorem zero4 (w : World) : (zeroValue 4).run Try.prog w = .ok (.bool false) w := by kernel_rfl
def seenB (ns : List ByteArray) (s : ByteArray) : Bool := ns.any fun x => decide (x = s)
def MapB (wr : World) (B : Nat) (ns : List ByteArray) : Prop := ∃ D, wr.ownsMap Try.prog 9 belem B ns.length D ∧ IsMap D ∧ ∀ s, D.atKey (keyL s) (.lit (.bool false)) = .lit (.bool (seenB ns s))
theorem MapB.below {w w' : World} {b : Nat} {ns : List ByteArray} (h : MapB w b ns) (hb : Below w.heap.size w w') : MapB w' b ns := by
  obtain ⟨D, h0, h2⟩ := h
  have hlt := World.ownsMap.lt h0
  obtain ⟨es, clock, h1, F, hs, hD⟩ := h0
  exact ⟨D, ⟨es, clock, (hb.block b hlt).trans h1, F, hs, hD⟩, h2⟩
theorem MapB.look {wr : World} {B : Nat} {ns : List ByteArray} (h : MapB wr B ns) {s : ByteArray} (hs : s.size ≤ maxLen) :
    (Instr.lookup 71 (.map (some B)) (.string s) false).run Try.prog wr = .ok (.bool (seenB ns s)) wr := by
  obtain ⟨D, h1, h2, h3⟩ := h
  obtain ⟨v, q, hrun, hv⟩ := h1.lookup law9 Try.underlying71 (zero4 wr) (zd := .lit (.bool false)) (zp := []) rfl (keyOf9 hs)
  rw [h3 s] at hv
  rw [hrun, belem_bool hv]
theorem MapB.store {wr : World} {B : Nat} {ns : List ByteArray} (h : MapB wr B ns) (n : ByteArray) (hs : n.size ≤ maxLen) (hk : ns.length < maxLen) :
    ∃ w2, (Instr.mapUpdate 71 (.map (some B)) (.string n) (.bool true)).run Try.prog wr = .ok () w2 ∧ (seenB ns n = false → MapB w2 B (ns ++ [n])) ∧ wr.mapTurned w2 B := by
  obtain ⟨D, h1, h2, h3⟩ := h
  obtain ⟨w2, r1, r2, r3⟩ := h1.store law9 Try.underlying71 hk (keyOf9 hs) (val := .bool true) (d := .lit (.bool true)) (ps := []) (by simp [belem])
  refine ⟨w2, r1, fun hn => ⟨_, by rw [List.length_append, List.length_singleton]; exact r2, h2.put _ _, fun s => ?_⟩, r3⟩
  by_cases hse : n = s
  · subst hse
    rw [atKey_put_same h2 (keyL_is _)]
    simp [seenB]
  · rw [atKey_put_other (fun h => hse (keyL_inj h).symm), h3]
    simp [seenB, hse]
theorem MapB.made (w : World) : MapB (w.alloc (.map #[] 0)) w.heap.size [] := ⟨.map [], World.ownsMap_made _ _ _ _, isMap_empty, fun s => rfl⟩
end Go.Proofs.Ytchkjfokoenlnaa.Sym

/- What plain says of the objects: a fold over their symbols. No program in sight. -/
namespace Go.Proofs.Ytchkjfokoenlnaa.Sym
open Go.RowKit Go.Proofs.YtchkjfokoenlnaaW.PrintWords Go.Proofs.YtchkjfokoenlnaaW.PrintLast Go.Proofs.Ytchkjfokoenlnaa.QSy
set_option linter.unusedVariables false
/-- A symbol that plain passes over. -/
def skipB (s : S47) : Bool := decide (s.f3 = 0) || (decide (s.f6 = -1) || (decide (s.f3 = 1) && !decide (s.f6 = -3)))
def pst (o : Option (List ByteArray)) (s : S47) : Option (List ByteArray) := match o with
  | none => none
  | some ns => if skipB s then some ns else if seenB ns s.f0 then none else some (ns ++ [s.f0])
def pSym (o : Option (List ByteArray)) (ss : List S47) : Nat → Option (List ByteArray)
  | 0 => o
  | k + 1 => pst (pSym o ss k) (ss.getD k z47)
def pObj (ls : List S44) : Nat → Option (List ByteArray)
  | 0 => some []
  | i + 1 => pSym (pObj ls i) ((ls.getD i z44).f1.f1) ((ls.getD i z44).f1.f1).length
def plainS (ls : List S44) : Bool := (pObj ls ls.length).isSome
theorem pSym_none (ss : List S47) (k : Nat) : pSym none ss k = none := by
  induction k with
  | zero => rfl
  | succ k ih => simp only [pSym, ih, pst]
theorem pSym_stop {o : Option (List ByteArray)} {ss : List S47} {k : Nat} (h : pSym o ss k = none) : ∀ d, pSym o ss (k + d) = none := by
  intro d
  induction d with
  | zero => exact h
  | succ d ih =>
    show pst (pSym o ss (k + d)) _ = none
    rw [ih]; rfl
theorem pObj_stop {ls : List S44} {i : Nat} (h : pObj ls i = none) : ∀ d, pObj ls (i + d) = none := by
  intro d
  induction d with
  | zero => exact h
  | succ d ih =>
    show pSym (pObj ls (i + d)) _ _ = none
    rw [ih, pSym_none]
/-- Once it has stopped, it is false. -/
theorem plain_stop {ls : List S44} {i k : Nat} (hi : i < ls.length) (hk : k < ((ls.getD i z44).f1.f1).length) (h : pSym (pObj ls i) ((ls.getD i z44).f1.f1) (k + 1) = none) : plainS ls = false := by
  have h1 : pObj ls (i + 1) = none := by
    have := pSym_stop h (((ls.getD i z44).f1.f1).length - (k + 1))
    rw [show k + 1 + (((ls.getD i z44).f1.f1).length - (k + 1)) = ((ls.getD i z44).f1.f1).length from by omega] at this
    exact this
  have h2 := pObj_stop h1 (ls.length - (i + 1))
  rw [show i + 1 + (ls.length - (i + 1)) = ls.length from by omega] at h2
  unfold plainS
  rw [h2]; rfl
theorem pst_len {ns ms : List ByteArray} {s : S47} (h : pst (some ns) s = some ms) : ms.length ≤ ns.length + 1 := by
  unfold pst at h
  simp only at h
  split at h
  · cases h; omega
  · split at h
    · cases h
    · cases h; simp
end Go.Proofs.Ytchkjfokoenlnaa.Sym
