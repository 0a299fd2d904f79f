/- The arguments of the laws of syms, opened. -/
import Derived.Test.YtchkjfokoenlnaaQOpen
import Derived.Test.YtchkjfokoenlnaaQSyW
namespace Go.Proofs.Ytchkjfokoenlnaa.Sym
open Go.RowKit Go.Proofs.YtchkjfokoenlnaaW.PrintWords Go.Proofs.YtchkjfokoenlnaaW.PrintLast Go.Proofs.Ytchkjfokoenlnaa.QSy Go.Proofs.Ytchkjfokoenlnaa.Open
set_option linter.unusedVariables false
theorem sum_ones {α : Type} (l : List α) : (l.map fun _ => 1).sum = l.length := by
  induction l with
  | nil => rfl
  | cons x r ih => simp only [List.map_cons, List.sum_cons, ih, List.length_cons]; omega
section
variable {H : Type} {enc : TypeId × Value → H} {w : World} {base : Nat} {spare : Nat → Bool} {held : Bool}
theorem op47 : Opens enc Try.prog w base spare held 47 k47 (fun x => x.f0.size ≤ maxLen) (fun _ => True) (fun _ => 1) :=
  op_imp (op_iso (fun x : S47 => (x.f0, x.f1, x.f2, x.f3, x.f4, x.f5, x.f6)) (fun p => ⟨p.1, p.2.1, p.2.2.1, p.2.2.2.1, p.2.2.2.2.1, p.2.2.2.2.2.1, p.2.2.2.2.2.2⟩) (fun _ => rfl)
    (op_struct Try.underlying47 (by kernel_rfl) (opf_cons (op_string Try.underlying9 (by kernel_rfl)) rfl (opf_cons (op_int Try.underlying45 (by kernel_rfl)) (by kernel_rfl) (opf_cons (op_int Try.underlying45 (by kernel_rfl)) (by kernel_rfl) (opf_cons (op_int Try.underlying5 (by kernel_rfl)) (by kernel_rfl) (opf_cons (op_int Try.underlying5 (by kernel_rfl)) (by kernel_rfl) (opf_cons (op_bool Try.underlying4 (by kernel_rfl)) (by kernel_rfl) (opf_one (op_int Try.underlying3 (by kernel_rfl)) (by kernel_rfl) (by kernel_rfl))))))))))
    (fun _ h => h.1) (fun _ _ => trivial) (fun _ => Nat.le_add_left 1 _)
theorem op137 : Opens enc Try.prog w base spare held 137 k137 (fun _ => True) (fun _ => True) (fun _ => 0) :=
  op_imp (op_iso (fun x : S137 => (x.f0, x.f1, x.f2, x.f3, x.f4, x.f5)) (fun p => ⟨p.1, p.2.1, p.2.2.1, p.2.2.2.1, p.2.2.2.2.1, p.2.2.2.2.2⟩) (fun _ => rfl)
    (op_struct Try.underlying137 (by kernel_rfl) (opf_cons (op_string Try.underlying9 (by kernel_rfl)) rfl (opf_cons (op_int Try.underlying45 (by kernel_rfl)) (by kernel_rfl) (opf_cons (op_int Try.underlying45 (by kernel_rfl)) (by kernel_rfl) (opf_cons (op_int Try.underlying45 (by kernel_rfl)) (by kernel_rfl) (opf_cons (op_int Try.underlying45 (by kernel_rfl)) (by kernel_rfl) (opf_one (op_slice Try.underlying135 (by kernel_rfl) (op_int Try.underlying5 (by kernel_rfl))) (by kernel_rfl) (by kernel_rfl)))))))))
    (fun _ _ => trivial) (fun _ _ => trivial) (fun _ => Nat.zero_le _)
theorem op139 : Opens enc Try.prog w base spare held 139 k139 (fun _ => True) (fun _ => True) (fun _ => 0) :=
  op_imp (op_iso (fun x : S139 => (x.f0, x.f1, x.f2, x.f3, x.f4)) (fun p => ⟨p.1, p.2.1, p.2.2.1, p.2.2.2.1, p.2.2.2.2⟩) (fun _ => rfl)
    (op_struct Try.underlying139 (by kernel_rfl) (opf_cons (op_int Try.underlying3 (by kernel_rfl)) rfl (opf_cons (op_int Try.underlying45 (by kernel_rfl)) (by kernel_rfl) (opf_cons (op_int Try.underlying5 (by kernel_rfl)) (by kernel_rfl) (opf_cons (op_int Try.underlying3 (by kernel_rfl)) (by kernel_rfl) (opf_one (op_int Try.underlying21 (by kernel_rfl)) (by kernel_rfl) (by kernel_rfl))))))))
    (fun _ _ => trivial) (fun _ _ => trivial) (fun _ => Nat.zero_le _)
theorem op_syms : Opens enc Try.prog w base spare held 39 (Kd.slice 47 k47) (fun l => ∀ y ∈ l, y.f0.size ≤ maxLen) (fun _ => True) (fun l => l.length) :=
  op_imp (op_slice Try.underlying39 (by kernel_rfl) op47) (fun _ h => h) (fun _ _ => trivial) (fun l => by rw [sum_ones]; omega)
theorem op42 : Opens enc Try.prog w base spare held 42 k42 (fun x => ∀ y ∈ x.f1, y.f0.size ≤ maxLen) (fun _ => True) (fun x => x.f1.length) :=
  op_imp (op_iso (fun x : S42 => (x.f0, x.f1, x.f2)) (fun p => ⟨p.1, p.2.1, p.2.2⟩) (fun _ => rfl)
    (op_struct Try.underlying42 (by kernel_rfl) (opf_cons (op_slice Try.underlying38 (by kernel_rfl) op137) rfl (opf_cons op_syms (by kernel_rfl) (opf_one (op_slice Try.underlying40 (by kernel_rfl) op139) (by kernel_rfl) (by kernel_rfl))))))
    (fun _ h => h.2.1) (fun _ _ => trivial) (fun x => Nat.le_trans (Nat.le_add_right _ _) (Nat.le_trans (Nat.le_add_left _ _) (Nat.le_add_right _ _)))
theorem op44 : Opens enc Try.prog w base spare held 44 k44 (fun x => ∀ y ∈ x.f1.f1, y.f0.size ≤ maxLen) (fun _ => True) (fun x => x.f1.f1.length) :=
  op_imp (op_iso (fun x : S44 => (x.f0, x.f1)) (fun p => ⟨p.1, p.2⟩) (fun _ => rfl)
    (op_struct Try.underlying44 (by kernel_rfl) (opf_cons (op_string Try.underlying9 (by kernel_rfl)) rfl (opf_one op42 (by kernel_rfl) (by kernel_rfl)))))
    (fun _ h => h.2) (fun _ _ => trivial) (fun x => Nat.le_trans (Nat.le_add_left _ _) (Nat.le_add_right _ _))
theorem op_objs : Opens enc Try.prog w base spare held 22 (Kd.slice 44 k44) (fun l => ∀ x ∈ l, ∀ y ∈ x.f1.f1, y.f0.size ≤ maxLen) (fun _ => True) (fun l => cnt l) :=
  op_imp (op_slice Try.underlying22 (by kernel_rfl) op44) (fun _ h => h) (fun _ _ => trivial) (fun l => Nat.le_add_right _ _)
theorem op_names : Opens enc Try.prog w base spare held 23 (Kd.slice 9 Kd.string) (fun l => ∀ y ∈ l, y.size ≤ maxLen) (fun _ => True) (fun l => l.length) :=
  op_imp (op_slice Try.underlying23 (by kernel_rfl) (op_imp (op_string Try.underlying9 (by kernel_rfl)) (fun _ h => h) (fun _ h => h) (m' := fun _ => 1) (fun _ => Nat.le_add_left 1 _))) (fun _ h => h) (fun _ _ => trivial) (fun l => by rw [sum_ones]; omega)
end
theorem cnt_part {ls : List S44} {x : S44} (h : x ∈ ls) : x.f1.f1.length ≤ cnt ls := by
  induction ls with
  | nil => cases h
  | cons y r ih =>
    rw [cnt_cons]
    rcases List.mem_cons.1 h with e | e
    · subst e; omega
    · have := ih e; omega
theorem getD_mem_or {α : Type} (l : List α) (i : Nat) (d : α) : l.getD i d ∈ l ∨ l.getD i d = d := by
  rcases Nat.lt_or_ge i l.length with h | h
  · left
    rw [List.getD_eq_getElem?_getD, List.getElem?_eq_getElem h]
    exact List.getElem_mem h
  · right
    rw [List.getD_eq_getElem?_getD, List.getElem?_eq_none h]
    rfl
theorem ls_of {ls : List S44} {W : World} {A : Option Addr} (hC : Kd.C k44 W A ls.length ls) (hW : ∀ x ∈ ls, ∀ y ∈ x.f1.f1, y.f0.size ≤ maxLen) {n : Nat} (hn : cnt ls ≤ n) (h : n ≤ 1048576) : Ls ls := by
  refine ⟨⟨hC.2.1, fun i => ?_⟩, fun i k => ?_, by omega⟩
  · rcases getD_mem_or ls i z44 with h | h
    · have := cnt_part h; omega
    · rw [h]; exact Nat.zero_le _
  · rcases getD_mem_or ls i z44 with h | h
    · rcases getD_mem_or (ls.getD i z44).f1.f1 k z47 with h2 | h2
      · exact hW _ h _ h2
      · rw [h2]; exact Nat.zero_le _
    · rw [h]
      rcases getD_mem_or z44.f1.f1 k z47 with h2 | h2
      · exact absurd h2 (by simp [z44, z42])
      · rw [h2]; exact Nat.zero_le _
end Go.Proofs.Ytchkjfokoenlnaa.Sym
