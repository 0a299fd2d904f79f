/- A slice of lines, opened. -/
import Derived.Test.YtchkjfokoenlnaaDoorQOpen
import Derived.Test.YtchkjfokoenlnaaDoorQNms
namespace Go.Proofs.YtchkjfokoenlnaaDoor.Lin
open Go.RowKit Go.Proofs.YtchkjfokoenlnaaDoorW.PrintWords Go.Proofs.YtchkjfokoenlnaaDoor.Open Go.Proofs.YtchkjfokoenlnaaDoor.InsP Go.Proofs.YtchkjfokoenlnaaDoor.Ins
set_option linter.unusedVariables false
section
variable {H : Type} {enc : TypeId × Value → H} {w : World} {base : Nat} {spare : Nat → Bool} {held : Bool}
/-- What the reading of a number says of it. -/
def wfI (k : IntKind) (n : Int) : Prop := (Lit.int k n).wf = true
theorem op31 : Opens enc Tryd.prog w base spare held 31 k31 (fun x => wfI .u8 x.op ∧ wfI .u8 x.rd ∧ wfI .u8 x.rs1 ∧ wfI .u8 x.rs2 ∧ wfI .i32 x.imm) (fun _ => True) (fun _ => 0) :=
  op_imp (op_iso (fun x : I5 => (x.op, x.rd, x.rs1, x.rs2, x.imm)) (fun p => ⟨p.1, p.2.1, p.2.2.1, p.2.2.2.1, p.2.2.2.2⟩) (fun _ => rfl)
    (op_struct Tryd.underlying31 (by kernel_rfl) (opf_cons (op_int Tryd.underlying29 (by kernel_rfl)) rfl (opf_cons (op_int Tryd.underlying5 (by kernel_rfl)) (by kernel_rfl) (opf_cons (op_int Tryd.underlying5 (by kernel_rfl)) (by kernel_rfl) (opf_cons (op_int Tryd.underlying5 (by kernel_rfl)) (by kernel_rfl) (opf_one (op_int Tryd.underlying21 (by kernel_rfl)) (by kernel_rfl) (by kernel_rfl))))))))
    (fun _ h => h) (fun _ _ => trivial) (fun _ => Nat.zero_le _)
theorem op33 : Opens enc Tryd.prog w base spare held 33 k33 (fun x => x.lab.size ≤ maxLen ∧ (wfI .u8 x.ins.op ∧ wfI .u8 x.ins.rd ∧ wfI .u8 x.ins.rs1 ∧ wfI .u8 x.ins.rs2 ∧ wfI .i32 x.ins.imm) ∧ x.aim.size ≤ maxLen) (fun x => x.lab.size ≤ 140737488351232 ∧ True ∧ x.aim.size ≤ 140737488351232) (fun _ => 0) :=
  op_imp (op_iso (fun x : Ln => (x.lab, x.ins, x.aim)) (fun p => ⟨p.1, p.2.1, p.2.2⟩) (fun _ => rfl)
    (op_struct Tryd.underlying33 (by kernel_rfl) (opf_cons (op_string Tryd.underlying9 (by kernel_rfl)) rfl (opf_cons op31 (by kernel_rfl) (opf_one (op_string Tryd.underlying9 (by kernel_rfl)) (by kernel_rfl) (by kernel_rfl))))))
    (fun _ h => h) (fun _ h => h) (fun _ => Nat.zero_le _)
theorem op_lines : Opens enc Tryd.prog w base spare held 23 (Kd.slice 33 k33) (fun l => ∀ x ∈ l, x.lab.size ≤ maxLen ∧ (wfI .u8 x.ins.op ∧ wfI .u8 x.ins.rd ∧ wfI .u8 x.ins.rs1 ∧ wfI .u8 x.ins.rs2 ∧ wfI .i32 x.ins.imm) ∧ x.aim.size ≤ maxLen) (fun l => l.length * Tryd.prog.bytesOf 33 ≤ 140737488351232 ∧ ∀ x ∈ l, x.lab.size ≤ 140737488351232 ∧ True ∧ x.aim.size ≤ 140737488351232) (fun l => (l.map fun _ => 0).sum + 1) :=
  op_slice Tryd.underlying23 (by kernel_rfl) op33
end
theorem wf_u8 {n : Int} (h : wfI .u8 n) : 0 ≤ n ∧ n < 256 := by
  unfold wfI at h
  simp [Lit.wf, IntKind.min, IntKind.max, IntKind.bits, IntKind.signed] at h
  omega
theorem wf_i32 {n : Int} (h : wfI .i32 n) : -2147483648 ≤ n ∧ n < 2147483648 := by
  unfold wfI at h
  simp [Lit.wf, IntKind.min, IntKind.max, IntKind.bits, IntKind.signed] at h
  omega
theorem wf_of {x : Ln} (h : x.lab.size ≤ maxLen ∧ (wfI .u8 x.ins.op ∧ wfI .u8 x.ins.rd ∧ wfI .u8 x.ins.rs1 ∧ wfI .u8 x.ins.rs2 ∧ wfI .i32 x.ins.imm) ∧ x.aim.size ≤ maxLen) : x.Wf :=
  ⟨wf_u8 h.2.1.1, wf_u8 h.2.1.2.1, wf_u8 h.2.1.2.2.1, wf_u8 h.2.1.2.2.2.1, wf_i32 h.2.1.2.2.2.2, h.1, h.2.2⟩
theorem short_of {x : Ln} (h : x.lab.size ≤ 140737488351232 ∧ True ∧ x.aim.size ≤ 140737488351232) : x.Short := by
  unfold Ln.Short maxLen
  exact ⟨by omega, by omega⟩
end Go.Proofs.YtchkjfokoenlnaaDoor.Lin
