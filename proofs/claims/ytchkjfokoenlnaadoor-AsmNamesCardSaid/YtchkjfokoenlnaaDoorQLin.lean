/- Rows of api.Line: how they read; which line has which name (the map of asm.names as a plain datum); what asm.put makes of lines. No program in sight but for the kinds of cells. -/
import Derived.Test.YtchkjfokoenlnaaDoorQInsP
import Derived.Test.YtchkjfokoenlnaaDoorWWords
import Derived.Test.YtchkjfokoenlnaaDoorWLast
import Derived.Maps.OwnSet
namespace Go.Proofs.YtchkjfokoenlnaaDoor.Lin
open Go.RowKit Go.Proofs.YtchkjfokoenlnaaDoorW.PrintWords Go.Proofs.YtchkjfokoenlnaaDoorW.PrintLast Go.Proofs.YtchkjfokoenlnaaDoor.InsP Go.Proofs.YtchkjfokoenlnaaDoor.Ins Go.Maps
set_option linter.unusedVariables false
/-! #### struct type 31 -/
def z31 : I5 := ⟨(0 : Int), (0 : Int), (0 : Int), (0 : Int), (0 : Int)⟩
def k31 : Kd I5 := Kd.iso (Kd.pair (Kd.int .u8) (Kd.pair (Kd.int .u8) (Kd.pair (Kd.int .u8) (Kd.pair (Kd.int .u8) (Kd.int .i32))))) (fun x : I5 => (x.op, x.rd, x.rs1, x.rs2, x.imm))
theorem k31_open {w : World} {x : I5} {cs : List Value} (h : k31.K w x cs) : cs = [.int .u8 x.op, .int .u8 x.rd, .int .u8 x.rs1, .int .u8 x.rs2, .int .i32 x.imm] := by
  obtain ⟨_, _, rfl, rfl, ⟨_, _, rfl, rfl, ⟨_, _, rfl, rfl, ⟨_, _, rfl, rfl, rfl⟩⟩⟩⟩ := h
  exact rfl
theorem k31_openM {w : World} {base : Nat} {ok : Nat → Prop} {x : I5} {cs : List Value} (h : k31.M w base ok x cs) : cs = [.int .u8 x.op, .int .u8 x.rd, .int .u8 x.rs1, .int .u8 x.rs2, .int .i32 x.imm] := by
  obtain ⟨_, _, rfl, rfl, ⟨_, _, rfl, rfl, ⟨_, _, rfl, rfl, ⟨_, _, rfl, rfl, rfl⟩⟩⟩⟩ := h
  exact rfl
theorem k31_mk (w : World) (x : I5)  : k31.K w x [.int .u8 x.op, .int .u8 x.rd, .int .u8 x.rs1, .int .u8 x.rs2, .int .i32 x.imm] := ⟨[.int .u8 x.op], [.int .u8 x.rd, .int .u8 x.rs1, .int .u8 x.rs2, .int .i32 x.imm], rfl, rfl, ⟨[.int .u8 x.rd], [.int .u8 x.rs1, .int .u8 x.rs2, .int .i32 x.imm], rfl, rfl, ⟨[.int .u8 x.rs1], [.int .u8 x.rs2, .int .i32 x.imm], rfl, rfl, ⟨[.int .u8 x.rs2], [.int .i32 x.imm], rfl, rfl, rfl⟩⟩⟩⟩
theorem k31_mkM (w : World) (base : Nat) (ok : Nat → Prop) (x : I5)  : k31.M w base ok x [.int .u8 x.op, .int .u8 x.rd, .int .u8 x.rs1, .int .u8 x.rs2, .int .i32 x.imm] := ⟨[.int .u8 x.op], [.int .u8 x.rd, .int .u8 x.rs1, .int .u8 x.rs2, .int .i32 x.imm], rfl, rfl, ⟨[.int .u8 x.rd], [.int .u8 x.rs1, .int .u8 x.rs2, .int .i32 x.imm], rfl, rfl, ⟨[.int .u8 x.rs1], [.int .u8 x.rs2, .int .i32 x.imm], rfl, rfl, ⟨[.int .u8 x.rs2], [.int .i32 x.imm], rfl, rfl, rfl⟩⟩⟩⟩
def rd_T31 (xs : List I5) (i : Int) : I5 := xs.getD i.toNat z31
theorem at_T31 {w : World} {A : Option Addr} {n : Nat} {xs : List I5} (h : Kd.C k31 w A n xs) (i : Int) (h0 : 0 ≤ i) (h1 : i < n) : ∃ ad , A = some ad ∧ w.cell? (ad.add (i.toNat * 5)) = some (.int .u8 (rd_T31 xs i).op) ∧ w.cell? ⟨(ad.add (i.toNat * 5)).block, (ad.add (i.toNat * 5)).off + 1, none⟩ = some (.int .u8 (rd_T31 xs i).rd) ∧ w.cell? ⟨(ad.add (i.toNat * 5)).block, (ad.add (i.toNat * 5)).off + 2, none⟩ = some (.int .u8 (rd_T31 xs i).rs1) ∧ w.cell? ⟨(ad.add (i.toNat * 5)).block, (ad.add (i.toNat * 5)).off + 3, none⟩ = some (.int .u8 (rd_T31 xs i).rs2) ∧ w.cell? ⟨(ad.add (i.toNat * 5)).block, (ad.add (i.toNat * 5)).off + 4, none⟩ = some (.int .i32 (rd_T31 xs i).imm) := by
  obtain ⟨ad, c, e, _, hK, hc0⟩ := Kd.C_get h z31 i h0 h1
  have hc : ∀ j u, c[j]? = some u → w.cell? (ad.add (i.toNat * 5 + j)) = some u := hc0
  obtain rfl := k31_open hK
  exact ⟨ad, e, hc 0 _ rfl, by rw [← add_field _ _ 1 (by omega)]; exact hc 1 _ rfl, by rw [← add_field _ _ 2 (by omega)]; exact hc 2 _ rfl, by rw [← add_field _ _ 3 (by omega)]; exact hc 3 _ rfl, by rw [← add_field _ _ 4 (by omega)]; exact hc 4 _ rfl⟩

/-! #### struct type 33 -/
/-- A line: its name, its instruction, whither. -/
structure Ln where
  lab : ByteArray
  ins : I5
  aim : ByteArray
def z33 : Ln := ⟨(⟨#[]⟩ : ByteArray), z31, (⟨#[]⟩ : ByteArray)⟩
def k33 : Kd Ln := Kd.iso (Kd.pair Kd.string (Kd.pair k31 Kd.string)) (fun x : Ln => (x.lab, x.ins, x.aim))
theorem k33_open {w : World} {x : Ln} {cs : List Value} (h : k33.K w x cs) : cs = [.string x.lab, .int .u8 x.ins.op, .int .u8 x.ins.rd, .int .u8 x.ins.rs1, .int .u8 x.ins.rs2, .int .i32 x.ins.imm, .string x.aim] := by
  obtain ⟨_, _, rfl, rfl, ⟨_, _, rfl, s1, rfl⟩⟩ := h
  obtain rfl := k31_open s1
  exact rfl
theorem k33_openM {w : World} {base : Nat} {ok : Nat → Prop} {x : Ln} {cs : List Value} (h : k33.M w base ok x cs) : cs = [.string x.lab, .int .u8 x.ins.op, .int .u8 x.ins.rd, .int .u8 x.ins.rs1, .int .u8 x.ins.rs2, .int .i32 x.ins.imm, .string x.aim] := by
  obtain ⟨_, _, rfl, rfl, ⟨_, _, rfl, s1, rfl⟩⟩ := h
  obtain rfl := k31_openM s1
  exact rfl
theorem k33_mk (w : World) (x : Ln)  : k33.K w x [.string x.lab, .int .u8 x.ins.op, .int .u8 x.ins.rd, .int .u8 x.ins.rs1, .int .u8 x.ins.rs2, .int .i32 x.ins.imm, .string x.aim] := ⟨[.string x.lab], [.int .u8 x.ins.op, .int .u8 x.ins.rd, .int .u8 x.ins.rs1, .int .u8 x.ins.rs2, .int .i32 x.ins.imm, .string x.aim], rfl, rfl, ⟨[.int .u8 x.ins.op, .int .u8 x.ins.rd, .int .u8 x.ins.rs1, .int .u8 x.ins.rs2, .int .i32 x.ins.imm], [.string x.aim], rfl, (k31_mk w x.ins ), rfl⟩⟩
theorem k33_mkM (w : World) (base : Nat) (ok : Nat → Prop) (x : Ln)  : k33.M w base ok x [.string x.lab, .int .u8 x.ins.op, .int .u8 x.ins.rd, .int .u8 x.ins.rs1, .int .u8 x.ins.rs2, .int .i32 x.ins.imm, .string x.aim] := ⟨[.string x.lab], [.int .u8 x.ins.op, .int .u8 x.ins.rd, .int .u8 x.ins.rs1, .int .u8 x.ins.rs2, .int .i32 x.ins.imm, .string x.aim], rfl, rfl, ⟨[.int .u8 x.ins.op, .int .u8 x.ins.rd, .int .u8 x.ins.rs1, .int .u8 x.ins.rs2, .int .i32 x.ins.imm], [.string x.aim], rfl, (k31_mkM w base ok x.ins ), rfl⟩⟩
def rd_T33 (xs : List Ln) (i : Int) : Ln := xs.getD i.toNat z33
theorem at_T33 {w : World} {A : Option Addr} {n : Nat} {xs : List Ln} (h : Kd.C k33 w A n xs) (i : Int) (h0 : 0 ≤ i) (h1 : i < n) : ∃ ad , A = some ad ∧ w.cell? (ad.add (i.toNat * 7)) = some (.string (rd_T33 xs i).lab) ∧ w.cell? ⟨(ad.add (i.toNat * 7)).block, (ad.add (i.toNat * 7)).off + 1, none⟩ = some (.int .u8 (rd_T33 xs i).ins.op) ∧ w.cell? ⟨(ad.add (i.toNat * 7)).block, (ad.add (i.toNat * 7)).off + 2, none⟩ = some (.int .u8 (rd_T33 xs i).ins.rd) ∧ w.cell? ⟨(ad.add (i.toNat * 7)).block, (ad.add (i.toNat * 7)).off + 3, none⟩ = some (.int .u8 (rd_T33 xs i).ins.rs1) ∧ w.cell? ⟨(ad.add (i.toNat * 7)).block, (ad.add (i.toNat * 7)).off + 4, none⟩ = some (.int .u8 (rd_T33 xs i).ins.rs2) ∧ w.cell? ⟨(ad.add (i.toNat * 7)).block, (ad.add (i.toNat * 7)).off + 5, none⟩ = some (.int .i32 (rd_T33 xs i).ins.imm) ∧ w.cell? ⟨(ad.add (i.toNat * 7)).block, (ad.add (i.toNat * 7)).off + 6, none⟩ = some (.string (rd_T33 xs i).aim) := by
  obtain ⟨ad, c, e, _, hK, hc0⟩ := Kd.C_get h z33 i h0 h1
  have hc : ∀ j u, c[j]? = some u → w.cell? (ad.add (i.toNat * 7 + j)) = some u := hc0
  obtain rfl := k33_open hK
  exact ⟨ad, e, hc 0 _ rfl, by rw [← add_field _ _ 1 (by omega)]; exact hc 1 _ rfl, by rw [← add_field _ _ 2 (by omega)]; exact hc 2 _ rfl, by rw [← add_field _ _ 3 (by omega)]; exact hc 3 _ rfl, by rw [← add_field _ _ 4 (by omega)]; exact hc 4 _ rfl, by rw [← add_field _ _ 5 (by omega)]; exact hc 5 _ rfl, by rw [← add_field _ _ 6 (by omega)]; exact hc 6 _ rfl⟩

/-! ### the names -/
def keyL (s : ByteArray) : Lit := .string s.data.toList
theorem keyL_inj {s t : ByteArray} (h : keyL s = keyL t) : s = t := by
  unfold keyL at h
  injection h with h
  cases s; cases t
  simp only [Array.toList_inj] at h
  rw [h]
theorem keyL_is (s : ByteArray) : WideAt.IsKeyLit (keyL s) := trivial
/-- The map behind k lines. -/
def tab (ls : List Ln) : Nat → DataW Unit
  | 0 => .map []
  | k + 1 => if (ls.getD k z33).lab = ⟨#[]⟩ then tab ls k else (tab ls k).put (keyL (ls.getD k z33).lab) (.lit (.int .i64 (k : Int)))
def hasT (ls : List Ln) (k : Nat) (s : ByteArray) : Bool := Maps.has (tab ls k) (keyL s)
def dup (ls : List Ln) (k : Nat) : Bool := !decide ((ls.getD k z33).lab = ⟨#[]⟩) && hasT ls k (ls.getD k z33).lab
/-- No name stands twice. -/
def Once (ls : List Ln) : Prop := ∀ i, i < ls.length → dup ls i = false
def numOf : DataW Unit → Int
  | .lit (.int _ c) => c
  | _ => 0
def idx (ls : List Ln) (s : ByteArray) : Int := numOf ((tab ls ls.length).atKey (keyL s) (.lit (.int .i64 0)))
/-- Each name that a line leads to stands. -/
def Stand (ls : List Ln) : Prop := ∀ i, i < ls.length → (ls.getD i z33).aim = ⟨#[]⟩ ∨ hasT ls ls.length (ls.getD i z33).aim = true
def leadsB (o : Int) : Bool := (o == 5) || (o == 6) || (o == 7) || (o == 8) || (o == 9) || (o == 10) || (o == 3)
/-- How far. -/
def far (ls : List Ln) (i : Nat) (s : ByteArray) : Int := wrap64 (4 * wrap64 (idx ls s - i))
/-- The word of a line, and its error. -/
def lineW (ls : List Ln) (i : Nat) : Int × Int :=
  let x := ls.getD i z33
  if x.aim = ⟨#[]⟩ then putS x.ins.op x.ins.rd x.ins.rs1 x.ins.rs2 x.ins.imm
  else if leadsB x.ins.op && (wrap64 (wrap32 (far ls i x.aim)) == far ls i x.aim) then putS x.ins.op x.ins.rd x.ins.rs1 x.ins.rs2 (wrap32 (far ls i x.aim))
  else (0, 2)
/-- Every line has a word. -/
def Words (ls : List Ln) : Prop := ∀ i, i < ls.length → (lineW ls i).2 = 0
def wordsL (ls : List Ln) (k : Nat) : List Int := (List.range k).map fun i => (lineW ls i).1
open Classical in
/-- What asm.Put answers: the words, and the error. -/
noncomputable def putL (ls : List Ln) : List Int × Int :=
  if ¬ Once ls then ([], 7) else if ¬ Stand ls then ([], 6) else if Words ls then (wordsL ls ls.length, 0) else ([], 2)
/-- The numbers of a line are within their kinds, its names are short enough to be keys. -/
def Ln.Wf (x : Ln) : Prop := (0 ≤ x.ins.op ∧ x.ins.op < 256) ∧ (0 ≤ x.ins.rd ∧ x.ins.rd < 256) ∧ (0 ≤ x.ins.rs1 ∧ x.ins.rs1 < 256) ∧ (0 ≤ x.ins.rs2 ∧ x.ins.rs2 < 256) ∧ (-2147483648 ≤ x.ins.imm ∧ x.ins.imm < 2147483648) ∧ x.lab.size ≤ maxLen ∧ x.aim.size ≤ maxLen
theorem wrap32_in (n : Int) : -2147483648 ≤ wrap32 n ∧ wrap32 n < 2147483648 := by unfold wrap32; omega
theorem wf_z : z33.Wf := by
  refine ⟨by decide, by decide, by decide, by decide, by decide, ?_, ?_⟩ <;> exact Nat.zero_le _
theorem wf_at {ls : List Ln} (h : ∀ x ∈ ls, x.Wf) (k : Nat) : (ls.getD k z33).Wf := by
  rw [List.getD_eq_getElem?_getD]
  cases hg : ls[k]? with
  | none => exact wf_z
  | some x => exact h x (List.mem_of_getElem? hg)
theorem has_at {ls : List Ln} {k : Nat} {s : ByteArray} : ∀ c : Int, (tab ls ls.length).atKey (keyL s) (.lit (.int .i64 0)) = .lit (.int .i64 c) → c = idx ls s := fun c h => by
  unfold idx; rw [h]; rfl
theorem tab_succ_empty {ls : List Ln} {k : Nat} (h : (ls.getD k z33).lab = ⟨#[]⟩) : tab ls (k + 1) = tab ls k := by
  simp only [tab, if_pos h]
theorem tab_succ {ls : List Ln} {k : Nat} (h : (ls.getD k z33).lab ≠ ⟨#[]⟩) : tab ls (k + 1) = (tab ls k).put (keyL (ls.getD k z33).lab) (.lit (.int .i64 (k : Int))) := by
  simp only [tab, if_neg h]
end Go.Proofs.YtchkjfokoenlnaaDoor.Lin
