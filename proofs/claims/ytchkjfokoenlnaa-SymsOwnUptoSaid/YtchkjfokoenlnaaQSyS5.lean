/- A plan, opened by the kinds of its cells, with what the reading gives of its strings and lengths. -/
import Derived.Test.YtchkjfokoenlnaaQSyS4
namespace Go.Proofs.Ytchkjfokoenlnaa.Sym
open Go.RowKit Go.Proofs.YtchkjfokoenlnaaW.PrintWords Go.Proofs.YtchkjfokoenlnaaW.PrintLast Go.Proofs.Ytchkjfokoenlnaa.QSy Go.Proofs.Ytchkjfokoenlnaa.Open
set_option linter.unusedVariables false
set_option linter.unusedSimpArgs false
abbrev nB : Nat := 140737488351232
theorem sum_ones' {α : Type} (l : List α) : (l.map fun _ => 1).sum = l.length := by
  induction l with
  | nil => rfl
  | cons x r ih => simp only [List.map_cons, List.sum_cons, ih, List.length_cons]; omega
def k53 : Kd (Int × Int × List S89 × List S78 × Int × ByteArray) := Kd.pair (Kd.int .i64) (Kd.pair (Kd.int .i64) (Kd.pair (Kd.slice 89 k89) (Kd.pair (Kd.slice 78 k78) (Kd.pair (Kd.int .i64) Kd.string))))
theorem k53_open {w : World} {x : Int × Int × List S89 × List S78 × Int × ByteArray} {cs : List Value} (h : k53.K w x cs) : ∃ A1 c1 A2 c2, cs = [.int .i64 x.1, .int .i64 x.2.1, .slice A1 x.2.2.1.length c1, .slice A2 x.2.2.2.1.length c2, .int .i64 x.2.2.2.2.1, .string x.2.2.2.2.2] ∧ x.2.2.1.length ≤ c1 ∧ k89.C w A1 x.2.2.1.length x.2.2.1 ∧ x.2.2.2.1.length ≤ c2 ∧ k78.C w A2 x.2.2.2.1.length x.2.2.2.1 := by
  obtain ⟨_, _, rfl, rfl, ⟨_, _, rfl, rfl, ⟨_, _, rfl, ⟨A1, c1, rfl, l1, g1⟩, ⟨_, _, rfl, ⟨A2, c2, rfl, l2, g2⟩, ⟨_, _, rfl, rfl, rfl⟩⟩⟩⟩⟩ := h
  exact ⟨A1, c1, A2, c2, rfl, l1, g1, l2, g2⟩
section
variable {H : Type} {enc : TypeId × Value → H} {w : World} {base : Nat} {spare : Nat → Bool} {held : Bool}
theorem op9 : Opens enc Try.prog w base spare held 9 Kd.string (fun _ => True) (fun s => s.size ≤ nB) (fun _ => 0) := op_str 9 Try.underlying9 (by kernel_rfl)
theorem opI : Opens enc Try.prog w base spare held 3 (Kd.int .i64) (fun _ => True) (fun _ => True) (fun _ => 0) := op_imp (op_int Try.underlying3 (by kernel_rfl)) (fun _ _ => trivial) (fun _ h => h) (fun _ => Nat.zero_le _)
theorem opU : Opens enc Try.prog w base spare held 45 (Kd.int .u32) (fun _ => True) (fun _ => True) (fun _ => 0) := op_imp (op_int Try.underlying45 (by kernel_rfl)) (fun _ _ => trivial) (fun _ h => h) (fun _ => Nat.zero_le _)
theorem opB : Opens enc Try.prog w base spare held 4 Kd.bool (fun _ => True) (fun _ => True) (fun _ => 0) := op_imp (op_bool Try.underlying4 (by kernel_rfl)) (fun _ _ => trivial) (fun _ h => h) (fun _ => Nat.zero_le _)
theorem op89 : Opens enc Try.prog w base spare held 89 k89 (fun _ => True) (fun x => x.f0.size ≤ nB) (fun _ => 1) :=
  op_imp (op_iso (fun x : S89 => (x.f0, x.f1)) (fun p => ⟨p.1, p.2⟩) (fun _ => rfl) (op_struct Try.underlying89 (by kernel_rfl) (opf_cons op9 rfl (opf_one opI (by kernel_rfl) (by kernel_rfl)))))
    (fun _ _ => trivial) (fun _ h => h.1) (fun _ => Nat.le_add_left 1 _)
theorem op80 : Opens enc Try.prog w base spare held 80 k80 (fun _ => True) (fun x => x.f1.size ≤ nB) (fun _ => 1) :=
  op_imp (op_iso (fun x : S80 => (x.f0, x.f1)) (fun p => ⟨p.1, p.2⟩) (fun _ => rfl) (op_struct Try.underlying80 (by kernel_rfl) (opf_cons opI rfl (opf_one op9 (by kernel_rfl) (by kernel_rfl)))))
    (fun _ _ => trivial) (fun _ h => h.2) (fun _ => Nat.le_add_left 1 _)
theorem op84 : Opens enc Try.prog w base spare held 84 k84 (fun _ => True) (fun x => x.f0.size ≤ nB) (fun _ => 1) :=
  op_imp (op_iso (fun x : S84 => (x.f0, x.f1, x.f2)) (fun p => ⟨p.1, p.2.1, p.2.2⟩) (fun _ => rfl) (op_struct Try.underlying84 (by kernel_rfl) (opf_cons op9 rfl (opf_cons opU (by kernel_rfl) (opf_one opU (by kernel_rfl) (by kernel_rfl))))))
    (fun _ _ => trivial) (fun _ h => h.1) (fun _ => Nat.le_add_left 1 _)
theorem op86 : Opens enc Try.prog w base spare held 86 k86 (fun _ => True) (fun _ => True) (fun _ => 1) :=
  op_imp (op_iso (fun x : S86 => (x.f0, x.f1)) (fun p => ⟨p.1, p.2⟩) (fun _ => rfl) (op_struct Try.underlying86 (by kernel_rfl) (opf_cons opI rfl (opf_one opB (by kernel_rfl) (by kernel_rfl)))))
    (fun _ _ => trivial) (fun _ _ => trivial) (fun _ => Nat.le_add_left 1 _)
theorem op141 : Opens enc Try.prog w base spare held 141 k141 (fun _ => True) (fun _ => True) (fun _ => 1) :=
  op_imp (op_iso (fun x : S141 => (x.f0, x.f1)) (fun p => ⟨p.1, p.2⟩) (fun _ => rfl) (op_struct Try.underlying141 (by kernel_rfl) (opf_cons op9 rfl (opf_one opB (by kernel_rfl) (by kernel_rfl)))))
    (fun _ _ => trivial) (fun _ _ => trivial) (fun _ => Nat.le_add_left 1 _)
theorem op143 : Opens enc Try.prog w base spare held 143 k143 (fun _ => True) (fun _ => True) (fun _ => 1) :=
  op_imp (op_iso (fun x : S143 => (x.f0, x.f1, x.f2)) (fun p => ⟨p.1, p.2.1, p.2.2⟩) (fun _ => rfl) (op_struct Try.underlying143 (by kernel_rfl) (opf_cons op9 rfl (opf_cons opI (by kernel_rfl) (opf_one opI (by kernel_rfl) (by kernel_rfl))))))
    (fun _ _ => trivial) (fun _ _ => trivial) (fun _ => Nat.le_add_left 1 _)
theorem op_row {t e : TypeId} {α : Type} {k : Kd α} {Sz : α → Prop} (ht : Try.prog.underlying t = some (.slice e)) (hc : Try.prog.cellsOf t = 1) (h : Opens enc Try.prog w base spare held e k (fun _ => True) Sz (fun _ => 1)) :
    Opens enc Try.prog w base spare held t (Kd.slice e k) (fun _ => True) (fun l => ∀ x ∈ l, Sz x) (fun l => l.length) :=
  op_imp (op_slice ht hc h) (fun _ _ => trivial) (fun _ h => h.2) (fun l => by rw [sum_ones']; omega)
theorem op78 : Opens enc Try.prog w base spare held 78 k78 (fun _ => True) (fun x => x.f0.size ≤ nB ∧ (∀ y ∈ x.f3, y.f1.size ≤ nB) ∧ (∀ y ∈ x.f4, y.f0.size ≤ nB)) (fun x => x.f3.length + x.f4.length + x.f5.length) :=
  op_imp (op_iso (fun x : S78 => (x.f0, x.f1, x.f2, x.f3, x.f4, x.f5)) (fun p => ⟨p.1, p.2.1, p.2.2.1, p.2.2.2.1, p.2.2.2.2.1, p.2.2.2.2.2⟩) (fun _ => rfl)
    (op_struct Try.underlying78 (by kernel_rfl) (opf_cons op9 rfl (opf_cons (op_row Try.underlying72 (by kernel_rfl) op141) (by kernel_rfl) (opf_cons (op_row Try.underlying73 (by kernel_rfl) op143) (by kernel_rfl) (opf_cons (op_row Try.underlying74 (by kernel_rfl) op80) (by kernel_rfl) (opf_cons (op_row Try.underlying75 (by kernel_rfl) op84) (by kernel_rfl) (opf_one (op_row Try.underlying76 (by kernel_rfl) op86) (by kernel_rfl) (by kernel_rfl)))))))))
    (fun _ _ => trivial) (fun _ h => ⟨h.1, h.2.2.2.1, h.2.2.2.2.1⟩) (fun x => by simp only; omega)
def SzP (x : Int × Int × List S89 × List S78 × Int × ByteArray) : Prop := (∀ y ∈ x.2.2.1, y.f0.size ≤ nB) ∧ ∀ z ∈ x.2.2.2.1, z.f0.size ≤ nB ∧ (∀ y ∈ z.f3, y.f1.size ≤ nB) ∧ (∀ y ∈ z.f4, y.f0.size ≤ nB)
def mP (x : Int × Int × List S89 × List S78 × Int × ByteArray) : Nat := (x.2.2.2.1.map fun (z : S78) => z.f3.length + z.f4.length + z.f5.length).sum
theorem op_plan : Opens enc Try.prog w base spare held 53 k53 (fun _ => True) SzP mP :=
  op_imp (op_struct Try.underlying53 (by kernel_rfl) (opf_cons opI rfl (opf_cons opI (by kernel_rfl) (opf_cons (op_row Try.underlying50 (by kernel_rfl) op89) (by kernel_rfl) (opf_cons (op_slice Try.underlying51 (by kernel_rfl) op78) (by kernel_rfl) (opf_cons opI (by kernel_rfl) (opf_one op9 (by kernel_rfl) (by kernel_rfl))))))))
    (fun _ _ => trivial) (fun _ h => ⟨h.2.2.1, h.2.2.2.1.2⟩) (fun x => by unfold mP; first | omega | (dsimp only; omega))
end
theorem getD_mem_or' {α : Type} (l : List α) (i : Nat) (d : α) : l.getD i d ∈ l ∨ l.getD i d = d := by
  rcases Nat.lt_or_ge i l.length with h | h
  · left
    rw [List.getD_eq_getElem?_getD, List.getElem?_eq_getElem h]
    exact List.getElem_mem h
  · right
    rw [List.getD_eq_getElem?_getD, List.getElem?_eq_none h]
    rfl
theorem le_sum_of_mem {α : Type} (f : α → Nat) {l : List α} {x : α} (h : x ∈ l) : f x ≤ (l.map f).sum := by
  induction l with
  | nil => cases h
  | cons y r ih =>
    simp only [List.map_cons, List.sum_cons]
    rcases List.mem_cons.1 h with e | e
    · subst e; omega
    · have := ih e; omega
theorem own_ok {hs : List S89} {cs : List S78} (hh : ∀ y ∈ hs, y.f0.size ≤ nB) (hc : ∀ x ∈ cs, x.f0.size ≤ nB ∧ (∀ y ∈ x.f3, y.f1.size ≤ nB) ∧ (∀ y ∈ x.f4, y.f0.size ≤ nB)) (hm : (cs.map fun x => x.f3.length + x.f4.length + x.f5.length).sum ≤ 1048576) (c : Int) (h0 : 0 ≤ c) (h1 : c < cs.length) : OwnOk cs hs (rd_T78 cs c) := by
  have hx : rd_T78 cs c ∈ cs := by
    unfold rd_T78
    rw [List.getD_eq_getElem?_getD, List.getElem?_eq_getElem (by omega)]
    exact List.getElem_mem _
  refine ⟨fun n => ?_, fun n => ?_, fun j => ?_, fun j => ?_, Nat.le_trans (le_sum_of_mem (fun x : S78 => x.f3.length + x.f4.length + x.f5.length) hx) hm⟩
  · unfold nameC
    split
    · exact Nat.zero_le _
    · rcases getD_mem_or' cs n.toNat z78 with h | h
      · exact (hc _ h).1
      · unfold rd_T78; rw [h]; exact Nat.zero_le _
  · unfold nameH
    split
    · exact Nat.zero_le _
    · rcases getD_mem_or' hs n.toNat z89 with h | h
      · exact hh _ h
      · unfold rd_T89; rw [h]; exact Nat.zero_le _
  · rcases getD_mem_or' (rd_T78 cs c).f3 j.toNat z80 with h | h
    · exact (hc _ hx).2.1 _ h
    · unfold rd_T80; rw [h]; exact Nat.zero_le _
  · rcases getD_mem_or' (rd_T78 cs c).f4 j.toNat z84 with h | h
    · exact (hc _ hx).2.2 _ h
    · unfold rd_T84; rw [h]; exact Nat.zero_le _
end Go.Proofs.Ytchkjfokoenlnaa.Sym
