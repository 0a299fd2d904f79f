/- The objects opened, with their number in the measure. -/
import Derived.Test.YtchkjfokoenlnaaQSyZ
namespace Go.Proofs.Ytchkjfokoenlnaa.Sym
open Go.RowKit Go.Proofs.YtchkjfokoenlnaaW.PrintWords Go.Proofs.YtchkjfokoenlnaaW.PrintLast Go.Proofs.Ytchkjfokoenlnaa.QSy Go.Proofs.Ytchkjfokoenlnaa.Open
set_option linter.unusedVariables false
theorem sum_more (l : List S44) : (l.map fun x => x.f1.f1.length + 1).sum = cnt l + l.length := by
  unfold cnt
  induction l with
  | nil => rfl
  | cons x r ih => simp only [List.map_cons, List.sum_cons, ih, List.length_cons]; omega
section
variable {H : Type} {enc : TypeId × Value → H} {w : World} {base : Nat} {spare : Nat → Bool} {held : Bool}
theorem op44_more : Opens enc Try.prog w base spare held 44 k44 (fun x => ∀ y ∈ x.f1.f1, y.f0.size ≤ maxLen) (fun _ => True) (fun x => x.f1.f1.length + 1) :=
  op_imp (op_iso (fun x : S44 => (x.f0, x.f1)) (fun p => ⟨p.1, p.2⟩) (fun _ => rfl)
    (op_struct Try.underlying44 (by kernel_rfl) (opf_cons (op_string Try.underlying9 (by kernel_rfl)) rfl (opf_one op42 (by kernel_rfl) (by kernel_rfl)))))
    (fun _ h => h.2) (fun _ _ => trivial) (fun x => Nat.succ_le_succ (Nat.le_add_left _ _))
theorem op_objs_more : Opens enc Try.prog w base spare held 22 (Kd.slice 44 k44) (fun l => ∀ x ∈ l, ∀ y ∈ x.f1.f1, y.f0.size ≤ maxLen) (fun _ => True) (fun l => cnt l + l.length) :=
  op_imp (op_slice Try.underlying22 (by kernel_rfl) op44_more) (fun _ h => h) (fun _ _ => trivial) (fun l => by rw [sum_more]; exact Nat.le_add_right _ _)
end
end Go.Proofs.Ytchkjfokoenlnaa.Sym
