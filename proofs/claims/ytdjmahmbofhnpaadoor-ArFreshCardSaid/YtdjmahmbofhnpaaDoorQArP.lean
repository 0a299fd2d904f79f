/- Archives in plain words: a name that may be one, a numeral, a head, the bytes of members and an index. No program in sight. -/
import Derived.Test.YtdjmahmbofhnpaaDoorQArx0
import Derived.Lib.ItoaNum
import Derived.Lib.ItoaMem
import Derived.Lib.Repeat
namespace Go.Proofs.YtdjmahmbofhnpaaDoor.Ar
open Go.RowKit Go.Proofs.YtdjmahmbofhnpaaDoorW.PrintWords Go.Proofs.YtdjmahmbofhnpaaDoorW.PrintLast Go.Proofs.YtdjmahmbofhnpaaDoor.QAr
set_option linter.unusedVariables false
set_option linter.unusedSimpArgs false
/-- A text's bytes as numbers. -/
def tb (s : ByteArray) : List Int := s.data.toList.map fun b => (b.toNat : Int)
theorem tb_len (s : ByteArray) : (tb s).length = s.size := by unfold tb; rw [List.length_map, Array.length_toList]; rfl
theorem tb_append (s t : ByteArray) : tb (s ++ t) = tb s ++ tb t := by unfold tb; rw [ByteArray.data_append]; simp
theorem tb_at (s : ByteArray) (i : Nat) (h : i < s.size) : (tb s)[i]? = some (bt s (i : Int)) := by
  unfold tb bt
  rw [List.getElem?_map]
  have h' : i < s.data.toList.length := by rw [Array.length_toList]; exact h
  rw [List.getElem?_eq_getElem h']
  simp only [Option.map_some, Int.toNat_natCast]
  rw [dif_pos h]
  rfl
theorem tb_range (s : ByteArray) : ∀ x ∈ tb s, 0 ≤ x ∧ x < 256 := by
  intro x hx
  unfold tb at hx
  obtain ⟨b, _, rfl⟩ := List.mem_map.1 hx
  have := b.toNat_lt
  omega
/-- A byte of a name. -/
def okB (b : Int) : Bool := decide (33 ≤ b) && decide (b ≤ 126) && decide (b ≠ 47)
/-- May it be a member's name? -/
def nameOk (s : ByteArray) : Bool := (tb s).all okB && decide (1 ≤ s.size) && decide (s.size ≤ 15)
def zeroIn (s : ByteArray) : Bool := (tb s).any fun b => b == 0
/-- Blanks behind. -/
def padS (s : ByteArray) (n : Nat) : ByteArray := s ++ ⟨(List.replicate (n - s.size) (32 : UInt8)).toArray⟩
def decS (n : Nat) : ByteArray := ⟨(Lib.decDigits n).toArray⟩
def z1 : ByteArray := ⟨#[48]⟩
/-- A member's head. -/
def headS (s : ByteArray) (n : Nat) : ByteArray := (((((padS s 16 ++ padS z1 12) ++ padS z1 6) ++ padS z1 6) ++ padS z1 8) ++ padS (decS n) 10) ++ (⟨#[96, 10]⟩ : ByteArray)
/-- Four bytes, the highest first. -/
def bigB (n : Nat) : List Int := [((n / 16777216 % 256 : Nat) : Int), ((n / 65536 % 256 : Nat) : Int), ((n / 256 % 256 : Nat) : Int), ((n % 256 : Nat) : Int)]
def magicB : List Int := [33, 60, 97, 114, 99, 104, 62, 10]
def seenB (ns : List ByteArray) (s : ByteArray) : Bool := ns.any fun x => decide (x = s)
/-- One member more, of those whose names are all right and different. -/
def nst (st : Option (List ByteArray)) (m : S39) : Option (List ByteArray) :=
  match st with
  | none => none
  | some ns => if nameOk m.f0 && !(seenB ns m.f0) then some (ns ++ [m.f0]) else none
def nSt (l : List S39) (i : Nat) : Option (List ByteArray) := (l.take i).foldl nst (some [])
/-- Are the names all right, and different? -/
def namesOk (l : List S39) : Bool := (nSt l l.length).isSome
/-- Is a name of the index all right? -/
def idxOk (l : List S39) (i : S43) : Bool := decide (0 ≤ i.f1) && decide (i.f1 < l.length) && decide (i.f0 ≠ ⟨#[]⟩) && !(zeroIn i.f0)
/-- The names' text, each with a 0 behind it. -/
def nmS (x : List S43) : ByteArray := x.foldl (fun s y => s ++ (y.f0 ++ (⟨#[0]⟩ : ByteArray))) ⟨#[]⟩
def namesB (x : List S43) : List Int := tb (nmS x)
/-- Where members begin. -/
def first (x : List S43) : Nat := 8 + if x = [] then 0 else 64 + 4 * x.length + (namesB x).length
def even (n : Nat) : Nat := n + n % 2
def places : Nat → List S39 → List Nat
  | _, [] => []
  | a, m :: r => even a :: places (even a + (60 + m.f1.length)) r
def after : Nat → List S39 → Nat
  | a, [] => a
  | a, m :: r => after (even a + (60 + m.f1.length)) r
/-- The index's bytes. -/
def indexB (l : List S39) (x : List S43) : List Int := bigB x.length ++ (x.flatMap fun i => bigB ((places (first x) l).getD i.f1.toNat 0)) ++ namesB x
/-- One member more. -/
def addM (o : List Int) (m : S39) : List Int := ((if o.length % 2 = 1 then o ++ [10] else o) ++ tb (headS (m.f0 ++ (⟨#[47]⟩ : ByteArray)) m.f1.length)) ++ m.f1
def startB (l : List S39) (x : List S43) : List Int := if x = [] then magicB else (magicB ++ tb (headS (⟨#[47]⟩ : ByteArray) (4 + 4 * x.length + (namesB x).length))) ++ indexB l x
/-- Put's answer. -/
def putS (l : List S39) (x : List S43) : List Int × Int :=
  if !(namesOk l) then ([], 2) else if !(x.all (idxOk l)) then ([], 2) else if 65536 < after (first x) l then ([], 3) else (l.foldl addM (startB l x), 0)
theorem nst_none (l : List S39) : l.foldl nst none = none := by
  induction l with
  | nil => rfl
  | cons m r ih => exact ih
theorem nSt_succ (l : List S39) (i : Nat) (h : i < l.length) : nSt l (i + 1) = nst (nSt l i) (l.getD i z39) := by
  unfold nSt
  rw [List.take_succ_eq_append_getElem h, List.foldl_append, List.getD_eq_getElem?_getD, List.getElem?_eq_getElem h]
  rfl
theorem nSt_stop (l : List S39) (i : Nat) (h : nSt l i = none) (hi : i ≤ l.length) : namesOk l = false := by
  unfold namesOk nSt at *
  rw [List.take_length, ← List.take_append_drop i l, List.foldl_append, h, nst_none]
  rfl
theorem nst_some (st : List ByteArray) (m : S39) : nst (some st) m = if nameOk m.f0 && !(seenB st m.f0) then some (st ++ [m.f0]) else none := rfl
theorem nSt_len (l : List S39) (i : Nat) (ns : List ByteArray) (h : nSt l i = some ns) : ns.length ≤ i := by
  have key : ∀ (k : List S39) (st : List ByteArray) (r : List ByteArray), k.foldl nst (some st) = some r → r.length ≤ st.length + k.length := by
    intro k
    induction k with
    | nil => intro st r h; cases h; simp
    | cons m k ih =>
      intro st r h
      rw [List.foldl_cons, nst_some] at h
      split at h
      · have := ih _ _ h; simp at this ⊢; omega
      · rw [nst_none] at h; cases h
  have := key _ _ _ h
  simp at this
  omega
theorem nmS_snoc (x : List S43) (y : S43) : nmS (x ++ [y]) = nmS x ++ (y.f0 ++ (⟨#[0]⟩ : ByteArray)) := by unfold nmS; rw [List.foldl_append]; rfl
theorem nmS_take (x : List S43) (i : Nat) (h : i < x.length) : nmS (x.take (i + 1)) = nmS (x.take i) ++ ((x.getD i z43).f0 ++ (⟨#[0]⟩ : ByteArray)) := by
  rw [List.take_succ_eq_append_getElem h, nmS_snoc, List.getD_eq_getElem?_getD, List.getElem?_eq_getElem h]; rfl
theorem after_snoc (a : Nat) (l : List S39) (m : S39) : after a (l ++ [m]) = even (after a l) + (60 + m.f1.length) := by
  induction l generalizing a with
  | nil => rfl
  | cons y r ih => exact ih _
theorem places_snoc (a : Nat) (l : List S39) (m : S39) : places a (l ++ [m]) = places a l ++ [even (after a l)] := by
  induction l generalizing a with
  | nil => rfl
  | cons y r ih => show even a :: places _ (r ++ [m]) = even a :: (places _ r ++ _); rw [ih]; rfl
theorem after_take (a : Nat) (l : List S39) (i : Nat) (h : i < l.length) : after a (l.take (i + 1)) = even (after a (l.take i)) + (60 + (l.getD i z39).f1.length) := by
  rw [List.take_succ_eq_append_getElem h, after_snoc, List.getD_eq_getElem?_getD, List.getElem?_eq_getElem h]; rfl
theorem places_take (a : Nat) (l : List S39) (i : Nat) (h : i < l.length) : places a (l.take (i + 1)) = places a (l.take i) ++ [even (after a (l.take i))] := by
  rw [List.take_succ_eq_append_getElem h, places_snoc]
theorem places_len (a : Nat) (l : List S39) : (places a l).length = l.length := by
  induction l generalizing a with
  | nil => rfl
  | cons y r ih => show (places _ r).length + 1 = _; rw [ih]; rfl
/-- How much members, an index, bear. -/
def mM (l : List S39) : Nat := (l.map fun m => m.f0.size + m.f1.length + 200).sum
def mX (x : List S43) : Nat := (x.map fun i => i.f0.size + 200).sum
theorem mM_take (l : List S39) (i : Nat) : mM (l.take i) ≤ mM l := by
  unfold mM
  conv => rhs; rw [← List.take_append_drop i l]
  rw [List.map_append, List.sum_append]
  omega
theorem mX_take (l : List S43) (i : Nat) : mX (l.take i) ≤ mX l := by
  unfold mX
  conv => rhs; rw [← List.take_append_drop i l]
  rw [List.map_append, List.sum_append]
  omega
theorem mM_snoc (l : List S39) (m : S39) : mM (l ++ [m]) = mM l + (m.f0.size + m.f1.length + 200) := by unfold mM; simp
theorem mX_snoc (l : List S43) (m : S43) : mX (l ++ [m]) = mX l + (m.f0.size + 200) := by unfold mX; simp
theorem len_mM (l : List S39) : 200 * l.length ≤ mM l := by
  unfold mM
  induction l with
  | nil => simp
  | cons m r ih => simp only [List.map_cons, List.sum_cons, List.length_cons]; omega
theorem len_mX (l : List S43) : 200 * l.length ≤ mX l := by
  unfold mX
  induction l with
  | nil => simp
  | cons m r ih => simp only [List.map_cons, List.sum_cons, List.length_cons]; omega
theorem nmS_size (x : List S43) : (nmS x).size ≤ mX x := by
  have key : ∀ (x : List S43) (s : ByteArray), (x.foldl (fun s y => s ++ (y.f0 ++ (⟨#[0]⟩ : ByteArray))) s).size ≤ s.size + mX x := by
    intro x
    induction x with
    | nil => intro s; exact Nat.le_add_right _ _
    | cons y r ih =>
      intro s
      have e : mX (y :: r) = (y.f0.size + 200) + mX r := by unfold mX; simp
      have := ih (s ++ (y.f0 ++ (⟨#[0]⟩ : ByteArray)))
      rw [ByteArray.size_append, ByteArray.size_append] at this
      have z : (⟨#[0]⟩ : ByteArray).size = 1 := rfl
      rw [z] at this
      rw [List.foldl_cons, e]
      omega
  have := key x ⟨#[]⟩
  have z : (⟨#[]⟩ : ByteArray).size = 0 := rfl
  rw [z] at this
  unfold nmS
  omega
theorem after_le (a : Nat) (l : List S39) : after a l ≤ a + mM l := by
  have key : ∀ (l : List S39) (a : Nat), after a l ≤ a + mM l := by
    intro l
    induction l with
    | nil => intro a; simp [after, mM]
    | cons m r ih =>
      intro a
      have := ih (even a + (60 + m.f1.length))
      have e : mM (m :: r) = (m.f0.size + m.f1.length + 200) + mM r := by unfold mM; simp
      show after (even a + (60 + m.f1.length)) r ≤ _
      unfold even at *
      omega
  exact key l a
end Go.Proofs.YtdjmahmbofhnpaaDoor.Ar
