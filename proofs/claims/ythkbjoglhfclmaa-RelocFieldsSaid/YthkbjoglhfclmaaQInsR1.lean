/- Contracts of ref05.row and ref05.fields. No condition. -/
import Derived.Test.YthkbjoglhfclmaaQInsR0
import Derived.LoopTactic
namespace Go.Proofs.Ythkbjoglhfclmaa.Ins
open Go.RowKit Go.Proofs.YthkbjoglhfclmaaW.PrintWords Go.Proofs.YthkbjoglhfclmaaW.PrintLast Go.Proofs.Ythkbjoglhfclmaa.Alu Go.Proofs.Ythkbjoglhfclmaa.InsP
set_option linter.unusedVariables false
set_option linter.unusedSimpArgs false
theorem flat6 (c : Nat) (hc : c < 6) : ∀ (l : List Row5) (j : Nat), (l.flatMap cells5)[j * 6 + c]? = (l[j]?).bind (fun r => (cells5 r)[c]?)
  | [], j => by simp
  | r :: l, 0 => by
    simp only [List.flatMap_cons, Nat.zero_mul, Nat.zero_add, List.getElem?_cons_zero, Option.bind_some]
    exact List.getElem?_append_left (by simpa [cells5] using hc)
  | r :: l, j + 1 => by
    have h := flat6 c hc l j
    rw [List.flatMap_cons, List.getElem?_append_right (by simp [cells5]; omega), List.getElem?_cons_succ, ← h]
    congr 1
    simp [cells5]; omega
theorem rows5_len : rows5.length = 68 := by decide
theorem row5_op : ∀ j, j < 68 → (row5 j).op = (j : Int) + 1 := by decide
theorem RowsAt.below {w w1 : World} {g : Nat} (h : RowsAt w g) (hb : Below w.heap.size w w1) : RowsAt w1 g :=
  (hb.block _ (Array.getElem?_eq_some_iff.1 h).1).trans h
theorem RowsAt.lt {w : World} {g : Nat} (h : RowsAt w g) : g < w.heap.size := (Array.getElem?_eq_some_iff.1 h).1
theorem RowsAt.get {w : World} {g : Nat} (h : RowsAt w g) (j : Nat) (hj : j < 68) : w.cell? ⟨g, j * 6, none⟩ = some (.int .u8 ((j : Int) + 1)) ∧ w.cell? ⟨g, j * 6 + 1, none⟩ = some (.string (row5 j).name) ∧
    w.cell? ⟨g, j * 6 + 2, none⟩ = some (.int .i64 (row5 j).form) ∧ w.cell? ⟨g, j * 6 + 3, none⟩ = some (.int .u32 (row5 j).code) ∧ w.cell? ⟨g, j * 6 + 4, none⟩ = some (.int .u32 (row5 j).f3) ∧ w.cell? ⟨g, j * 6 + 5, none⟩ = some (.int .u32 (row5 j).extra) := by
  have hr : rows5[j]? = some (row5 j) := by
    have hl : j < rows5.length := by rw [rows5_len]; exact hj
    rw [row5, List.getD_eq_getElem?_getD, List.getElem?_eq_getElem hl]; rfl
  have cell : ∀ c, c < 6 → w.cell? ⟨g, j * 6 + c, none⟩ = (cells5 (row5 j))[c]? := fun c hc => by
    rw [cell_of_block h]
    show (rows5.flatMap cells5).toArray[j * 6 + c]? = _
    rw [List.getElem?_toArray, flat6 c hc, hr]; rfl
  have c0 := cell 0 (by decide)
  rw [Nat.add_zero] at c0
  refine ⟨c0.trans ?_, cell 1 (by decide), cell 2 (by decide), cell 3 (by decide), cell 4 (by decide), cell 5 (by decide)⟩
  rw [← row5_op j hj]; rfl
set_option maxHeartbeats 8000000 in
set_option maxRecDepth 100000 in
theorem row_yes (j0 : Nat) (hj0 : j0 < 68) (w : World) : Calls Try.prog 51 #[.int .u8 ((j0 : Int) + 1)] w
    fun e w' => e = .returned (.tuple #[.agg #[.int .u8 ((j0 : Int) + 1), .string (row5 j0).name, .int .i64 (row5 j0).form, .int .u32 (row5 j0).code, .int .u32 (row5 j0).f3, .int .u32 (row5 j0).extra], .bool true]) ∧ Below w.heap.size w w' := by
  have HJ0 := Aside0.mk hj0
  clear hj0
  go_enter Try.func51, Try.ntmps51
  go_wp2_with fail
  refine (table_calls _).mono ?_
  rintro e w1 ⟨g, rfl, hF, hb⟩
  have hz : w.heap.size + 1 ≤ w1.heap.size := by have := hb.size; simpa using this
  have hblk : w1.heap[w.heap.size]? = some (.cells #[Value.int IntKind.u8 0, Value.string ⟨#[]⟩, Value.int IntKind.i64 0, Value.int IntKind.u32 0, Value.int IntKind.u32 0, Value.int IntKind.u32 0] 79 (0, 0)) := (hb.block w.heap.size (by simp)).trans (by rw [show ∀ o, (w.alloc o).heap = w.heap.push o from fun _ => rfl]; exact Array.getElem?_push_size)
  have HF : Aside0 (RowsAt w1 g) := ⟨hF⟩
  have HB : Aside0 (Below w.heap.size w w1) := ⟨((Below.refl _ _).alloc (Nat.le_refl _) _).trans (hb.mono (by simp))⟩
  have HW : Aside0 (w1.heap[w.heap.size]? = some (.cells #[Value.int IntKind.u8 0, Value.string ⟨#[]⟩, Value.int IntKind.i64 0, Value.int IntKind.u32 0, Value.int IntKind.u32 0, Value.int IntKind.u32 0] 79 (0, 0)) ∧ w.heap.size + 1 ≤ w1.heap.size) := ⟨hblk, hz⟩
  have hglt := hF.lt
  clear hblk hz hb hF
  go_wp2
  go_loopw [5] (fun v5 wr => ∃ j : Nat, v5 = .int .i64 j ∧ w1 = wr ∧ Aside0 (j ≤ j0)) (fun v5 _ => 68 - (intOf v5).toNat)
  case atStart => exact ⟨0, rfl, by first | exact trivial | rfl, ⟨Nat.zero_le _⟩⟩
  case round =>
    obtain ⟨j, rfl, hws, HJ⟩ := hrel
    subst hws
    have hj68 : j < 68 := by have := HJ.out; have := HJ0.out; omega
    obtain ⟨r0, r1, r2, r3, r4, r5⟩ := HF.out.get j hj68
    by_cases hjk : j < j0
    · have t1 : ((j : Int) + 1 == (j0 : Int) + 1) = false := by simp; omega
      go_wp2
      refine ⟨⟨j + 1, by go_num, by first | exact trivial | rfl, ⟨by omega⟩⟩, by simp [intOf]; omega⟩
    · have e : j = j0 := by have := HJ.out; omega
      subst e
      obtain ⟨hblk, hz⟩ := HW.out
      have hlt : w.heap.size < w1.heap.size := by omega
      have c0 := cell_of_block hblk 0
      have c1 := cell_of_block hblk 1
      have c2 := cell_of_block hblk 2
      have c3 := cell_of_block hblk 3
      have c4 := cell_of_block hblk 4
      have c5 := cell_of_block hblk 5
      simp at c0 c1 c2 c3 c4 c5
      have f0 := free_of_block hblk 0
      have f1 := free_of_block hblk 1
      have f2 := free_of_block hblk 2
      have f3 := free_of_block hblk 3
      have f4 := free_of_block hblk 4
      have f5 := free_of_block hblk 5
      clear hblk
      go_wp2
      refine bodyPost_ret (v := .tuple #[.agg #[.int .u8 ((j : Int) + 1), .string (row5 j).name, .int .i64 (row5 j).form, .int .u32 (row5 j).code, .int .u32 (row5 j).f3, .int .u32 (row5 j).extra], .bool true]) (by simp [results, Try.results51, go_sem, hlt, c0, c1, c2, c3, c4, c5, f0, f1, f2, f3, f4, f5]) rfl ⟨rfl, ?_⟩
      first
      | exact ((((((HB.out.setCell (Nat.le_refl _) _).setCell (Nat.le_refl _) _).setCell (Nat.le_refl _) _).setCell (Nat.le_refl _) _).setCell (Nat.le_refl _) _).setCell (Nat.le_refl _) _)
      | exact below_drew ((((((HB.out.setCell (Nat.le_refl _) _).setCell (Nat.le_refl _) _).setCell (Nat.le_refl _) _).setCell (Nat.le_refl _) _).setCell (Nat.le_refl _) _).setCell (Nat.le_refl _) _)
set_option maxHeartbeats 8000000 in
set_option maxRecDepth 100000 in
theorem row_no (o : Int) (h0 : 0 ≤ o) (h1 : o < 256) (ho : o = 0 ∨ 69 ≤ o) (w : World) : Calls Try.prog 51 #[.int .u8 (o)] w
    fun e w' => e = .returned (.tuple #[.agg #[.int .u8 0, .string ⟨#[]⟩, .int .i64 0, .int .u32 0, .int .u32 0, .int .u32 0], .bool false]) ∧ Below w.heap.size w w' := by
  have HO := Aside0.mk ho
  clear ho
  go_enter Try.func51, Try.ntmps51
  go_wp2_with fail
  refine (table_calls _).mono ?_
  rintro e w1 ⟨g, rfl, hF, hb⟩
  have hz : w.heap.size + 1 ≤ w1.heap.size := by have := hb.size; simpa using this
  have hblk : w1.heap[w.heap.size]? = some (.cells #[Value.int IntKind.u8 0, Value.string ⟨#[]⟩, Value.int IntKind.i64 0, Value.int IntKind.u32 0, Value.int IntKind.u32 0, Value.int IntKind.u32 0] 79 (0, 0)) := (hb.block w.heap.size (by simp)).trans (by rw [show ∀ o, (w.alloc o).heap = w.heap.push o from fun _ => rfl]; exact Array.getElem?_push_size)
  have HF : Aside0 (RowsAt w1 g) := ⟨hF⟩
  have HB : Aside0 (Below w.heap.size w w1) := ⟨((Below.refl _ _).alloc (Nat.le_refl _) _).trans (hb.mono (by simp))⟩
  have HW : Aside0 (w1.heap[w.heap.size]? = some (.cells #[Value.int IntKind.u8 0, Value.string ⟨#[]⟩, Value.int IntKind.i64 0, Value.int IntKind.u32 0, Value.int IntKind.u32 0, Value.int IntKind.u32 0] 79 (0, 0)) ∧ w.heap.size + 1 ≤ w1.heap.size) := ⟨hblk, hz⟩
  have hglt := hF.lt
  clear hblk hz hb hF
  go_wp2
  go_loopw [5] (fun v5 wr => ∃ j : Nat, v5 = .int .i64 j ∧ w1 = wr ∧ Aside0 (j ≤ 68)) (fun v5 _ => 68 - (intOf v5).toNat)
  case atStart => exact ⟨0, rfl, by first | exact trivial | rfl, ⟨Nat.zero_le _⟩⟩
  case round =>
    obtain ⟨j, rfl, hws, HJ⟩ := hrel
    subst hws
    by_cases hj68 : j < 68
    · obtain ⟨r0, r1, r2, r3, r4, r5⟩ := HF.out.get j hj68
      have t1 : ((j : Int) + 1 == o) = false := by have := HO.out; simp; omega
      go_wp2
      refine ⟨⟨j + 1, by go_num, by first | exact trivial | rfl, ⟨by omega⟩⟩, by simp [intOf]; omega⟩
    · have e : j = 68 := by have := HJ.out; omega
      subst e
      obtain ⟨hblk, hz⟩ := HW.out
      have hlt : w.heap.size < w1.heap.size := by omega
      have c0 := cell_of_block hblk 0
      have c1 := cell_of_block hblk 1
      have c2 := cell_of_block hblk 2
      have c3 := cell_of_block hblk 3
      have c4 := cell_of_block hblk 4
      have c5 := cell_of_block hblk 5
      simp at c0 c1 c2 c3 c4 c5
      have f0 := free_of_block hblk 0
      have f1 := free_of_block hblk 1
      have f2 := free_of_block hblk 2
      have f3 := free_of_block hblk 3
      have f4 := free_of_block hblk 4
      have f5 := free_of_block hblk 5
      clear hblk
      go_wp2
      refine bodyPost_ret (v := .tuple #[.agg #[.int .u8 0, .string ⟨#[]⟩, .int .i64 0, .int .u32 0, .int .u32 0, .int .u32 0], .bool false]) (by simp [results, Try.results51, go_sem, hlt, c0, c1, c2, c3, c4, c5, f0, f1, f2, f3, f4, f5]) rfl ⟨rfl, ?_⟩
      first
      | exact ((((((HB.out.setCell (Nat.le_refl _) _).setCell (Nat.le_refl _) _).setCell (Nat.le_refl _) _).setCell (Nat.le_refl _) _).setCell (Nat.le_refl _) _).setCell (Nat.le_refl _) _)
      | exact below_drew ((((((HB.out.setCell (Nat.le_refl _) _).setCell (Nat.le_refl _) _).setCell (Nat.le_refl _) _).setCell (Nat.le_refl _) _).setCell (Nat.le_refl _) _).setCell (Nat.le_refl _) _)
/-- Is what a form of the table lacks 0? -/
def zerR (rf : Nat) (rd rs1 rs2 : Int) : Bool :=
  match rf with
  | 0 => rs1 == 0 && rs2 == 0
  | 1 => rs1 == 0 && rs2 == 0
  | 5 => rd == 0
  | 6 => rd == 0
  | 7 => true
  | 10 => rd == 0 && rs1 == 0 && rs2 == 0
  | _ => rs2 == 0
def okR (rf : Nat) (rd rs1 rs2 : Int) (im : Bool) : Bool := decide (rd ≤ 15) && decide (rs1 ≤ 15) && decide (rs2 ≤ 15) && im && zerR rf rd rs1 rs2
set_option maxHeartbeats 8000000 in
set_option maxRecDepth 100000 in
theorem fields_R_0 (o : Int) (nm : ByteArray) (code f3 extra op rd rs1 rs2 imm : Int) (im : Bool) (him : immR 0 imm = im) (w : World) :
    Calls Try.prog 52 #[.agg #[.int .u8 o, .string nm, .int .i64 0, .int .u32 code, .int .u32 f3, .int .u32 extra], .agg #[.int .u8 op, .int .u8 rd, .int .u8 rs1, .int .u8 rs2, .int .i32 imm]] w
      fun e w' => e = .returned (.bool (okR 0 rd rs1 rs2 im)) ∧ Below w.heap.size w w' := by
  have IM : Aside0 (∀ w, Calls Try.prog 60 #[.int .i64 0, .int .i32 imm] w fun e w' => e = .returned (.bool im) ∧ w' = w) := ⟨fun w => by rw [← him]; exact imm_R_0 imm w⟩
  clear him
  by_cases g1 : rd ≤ 15
  case neg =>
    have t1 : decide (15 < rd) = true := decide_eq_true (by omega)
    rw [show okR 0 rd rs1 rs2 im = false from by simp [okR, g1]]
    clear g1
    go_enter Try.func52, Try.ntmps52
    repeat' (first | (with_reducible refine ex_then ?_) | (with_reducible refine ex_norm ?_) | (with_reducible refine ex_eq ?_) | ((with_reducible refine ex_ne ?_ ?_); exact rfl) | (with_reducible refine ex_thenR ?_) | (with_reducible refine ex_inN ?_) | (with_reducible refine ex_inR ?_) | (go_at_call 60; refine (IM.out _).mono ?_; rintro e w' ⟨rfl, rfl⟩; simp only []) | go_values | go_skip | go_guarded | go_step | go_upon)
    go_ret
    exact ⟨by first | rfl | (simp; done), by repeat (first | exact Below.refl _ _ | apply below_alloc)⟩
  have t1 : decide (15 < rd) = false := decide_eq_false (by omega)
  by_cases g2 : rs1 ≤ 15
  case neg =>
    have t2 : decide (15 < rs1) = true := decide_eq_true (by omega)
    rw [show okR 0 rd rs1 rs2 im = false from by simp [okR, g2]]
    clear g1 g2
    go_enter Try.func52, Try.ntmps52
    repeat' (first | (with_reducible refine ex_then ?_) | (with_reducible refine ex_norm ?_) | (with_reducible refine ex_eq ?_) | ((with_reducible refine ex_ne ?_ ?_); exact rfl) | (with_reducible refine ex_thenR ?_) | (with_reducible refine ex_inN ?_) | (with_reducible refine ex_inR ?_) | (go_at_call 60; refine (IM.out _).mono ?_; rintro e w' ⟨rfl, rfl⟩; simp only []) | go_values | go_skip | go_guarded | go_step | go_upon)
    go_ret
    exact ⟨by first | rfl | (simp; done), by repeat (first | exact Below.refl _ _ | apply below_alloc)⟩
  have t2 : decide (15 < rs1) = false := decide_eq_false (by omega)
  by_cases g3 : rs2 ≤ 15
  case neg =>
    have t3 : decide (15 < rs2) = true := decide_eq_true (by omega)
    rw [show okR 0 rd rs1 rs2 im = false from by simp [okR, g3]]
    clear g1 g2 g3
    go_enter Try.func52, Try.ntmps52
    repeat' (first | (with_reducible refine ex_then ?_) | (with_reducible refine ex_norm ?_) | (with_reducible refine ex_eq ?_) | ((with_reducible refine ex_ne ?_ ?_); exact rfl) | (with_reducible refine ex_thenR ?_) | (with_reducible refine ex_inN ?_) | (with_reducible refine ex_inR ?_) | (go_at_call 60; refine (IM.out _).mono ?_; rintro e w' ⟨rfl, rfl⟩; simp only []) | go_values | go_skip | go_guarded | go_step | go_upon)
    go_ret
    exact ⟨by first | rfl | (simp; done), by repeat (first | exact Below.refl _ _ | apply below_alloc)⟩
  have t3 : decide (15 < rs2) = false := decide_eq_false (by omega)
  have hok : okR 0 rd rs1 rs2 im = (im && zerR 0 rd rs1 rs2) := by simp [okR, g1, g2, g3]
  rw [hok]
  clear g1 g2 g3 hok
  cases im
  case false =>
    rw [Bool.false_and]
    go_enter Try.func52, Try.ntmps52
    repeat' (first | (with_reducible refine ex_then ?_) | (with_reducible refine ex_norm ?_) | (with_reducible refine ex_eq ?_) | ((with_reducible refine ex_ne ?_ ?_); exact rfl) | (with_reducible refine ex_thenR ?_) | (with_reducible refine ex_inN ?_) | (with_reducible refine ex_inR ?_) | (go_at_call 60; refine (IM.out _).mono ?_; rintro e w' ⟨rfl, rfl⟩; simp only []) | go_values | go_skip | go_guarded | go_step | go_upon)
    go_ret
    exact ⟨by first | rfl | (simp; done), by repeat (first | exact Below.refl _ _ | apply below_alloc)⟩
  rw [Bool.true_and]
  simp only [zerR]
  cases z1 : (rs1 == 0)
  case false =>
    rw [Bool.false_and]
    go_enter Try.func52, Try.ntmps52
    repeat' (first | (with_reducible refine ex_then ?_) | (with_reducible refine ex_norm ?_) | (with_reducible refine ex_eq ?_) | ((with_reducible refine ex_ne ?_ ?_); exact rfl) | (with_reducible refine ex_thenR ?_) | (with_reducible refine ex_inN ?_) | (with_reducible refine ex_inR ?_) | (go_at_call 60; refine (IM.out _).mono ?_; rintro e w' ⟨rfl, rfl⟩; simp only []) | go_values | go_skip | go_guarded | go_step | go_upon)
    go_ret
    exact ⟨by first | rfl | (simp; done), by repeat (first | exact Below.refl _ _ | apply below_alloc)⟩
  rw [Bool.true_and]
  go_enter Try.func52, Try.ntmps52
  repeat' (first | (with_reducible refine ex_then ?_) | (with_reducible refine ex_norm ?_) | (with_reducible refine ex_eq ?_) | ((with_reducible refine ex_ne ?_ ?_); exact rfl) | (with_reducible refine ex_thenR ?_) | (with_reducible refine ex_inN ?_) | (with_reducible refine ex_inR ?_) | (go_at_call 60; refine (IM.out _).mono ?_; rintro e w' ⟨rfl, rfl⟩; simp only []) | go_values | go_skip | go_guarded | go_step | go_upon)
  go_ret
  exact ⟨by first | rfl | (simp; done), by repeat (first | exact Below.refl _ _ | apply below_alloc)⟩
set_option maxHeartbeats 8000000 in
set_option maxRecDepth 100000 in
theorem fields_R_1 (o : Int) (nm : ByteArray) (code f3 extra op rd rs1 rs2 imm : Int) (im : Bool) (him : immR 1 imm = im) (w : World) :
    Calls Try.prog 52 #[.agg #[.int .u8 o, .string nm, .int .i64 1, .int .u32 code, .int .u32 f3, .int .u32 extra], .agg #[.int .u8 op, .int .u8 rd, .int .u8 rs1, .int .u8 rs2, .int .i32 imm]] w
      fun e w' => e = .returned (.bool (okR 1 rd rs1 rs2 im)) ∧ Below w.heap.size w w' := by
  have IM : Aside0 (∀ w, Calls Try.prog 60 #[.int .i64 1, .int .i32 imm] w fun e w' => e = .returned (.bool im) ∧ w' = w) := ⟨fun w => by rw [← him]; exact imm_R_1 imm w⟩
  clear him
  by_cases g1 : rd ≤ 15
  case neg =>
    have t1 : decide (15 < rd) = true := decide_eq_true (by omega)
    rw [show okR 1 rd rs1 rs2 im = false from by simp [okR, g1]]
    clear g1
    go_enter Try.func52, Try.ntmps52
    repeat' (first | (with_reducible refine ex_then ?_) | (with_reducible refine ex_norm ?_) | (with_reducible refine ex_eq ?_) | ((with_reducible refine ex_ne ?_ ?_); exact rfl) | (with_reducible refine ex_thenR ?_) | (with_reducible refine ex_inN ?_) | (with_reducible refine ex_inR ?_) | (go_at_call 60; refine (IM.out _).mono ?_; rintro e w' ⟨rfl, rfl⟩; simp only []) | go_values | go_skip | go_guarded | go_step | go_upon)
    go_ret
    exact ⟨by first | rfl | (simp; done), by repeat (first | exact Below.refl _ _ | apply below_alloc)⟩
  have t1 : decide (15 < rd) = false := decide_eq_false (by omega)
  by_cases g2 : rs1 ≤ 15
  case neg =>
    have t2 : decide (15 < rs1) = true := decide_eq_true (by omega)
    rw [show okR 1 rd rs1 rs2 im = false from by simp [okR, g2]]
    clear g1 g2
    go_enter Try.func52, Try.ntmps52
    repeat' (first | (with_reducible refine ex_then ?_) | (with_reducible refine ex_norm ?_) | (with_reducible refine ex_eq ?_) | ((with_reducible refine ex_ne ?_ ?_); exact rfl) | (with_reducible refine ex_thenR ?_) | (with_reducible refine ex_inN ?_) | (with_reducible refine ex_inR ?_) | (go_at_call 60; refine (IM.out _).mono ?_; rintro e w' ⟨rfl, rfl⟩; simp only []) | go_values | go_skip | go_guarded | go_step | go_upon)
    go_ret
    exact ⟨by first | rfl | (simp; done), by repeat (first | exact Below.refl _ _ | apply below_alloc)⟩
  have t2 : decide (15 < rs1) = false := decide_eq_false (by omega)
  by_cases g3 : rs2 ≤ 15
  case neg =>
    have t3 : decide (15 < rs2) = true := decide_eq_true (by omega)
    rw [show okR 1 rd rs1 rs2 im = false from by simp [okR, g3]]
    clear g1 g2 g3
    go_enter Try.func52, Try.ntmps52
    repeat' (first | (with_reducible refine ex_then ?_) | (with_reducible refine ex_norm ?_) | (with_reducible refine ex_eq ?_) | ((with_reducible refine ex_ne ?_ ?_); exact rfl) | (with_reducible refine ex_thenR ?_) | (with_reducible refine ex_inN ?_) | (with_reducible refine ex_inR ?_) | (go_at_call 60; refine (IM.out _).mono ?_; rintro e w' ⟨rfl, rfl⟩; simp only []) | go_values | go_skip | go_guarded | go_step | go_upon)
    go_ret
    exact ⟨by first | rfl | (simp; done), by repeat (first | exact Below.refl _ _ | apply below_alloc)⟩
  have t3 : decide (15 < rs2) = false := decide_eq_false (by omega)
  have hok : okR 1 rd rs1 rs2 im = (im && zerR 1 rd rs1 rs2) := by simp [okR, g1, g2, g3]
  rw [hok]
  clear g1 g2 g3 hok
  cases im
  case false =>
    rw [Bool.false_and]
    go_enter Try.func52, Try.ntmps52
    repeat' (first | (with_reducible refine ex_then ?_) | (with_reducible refine ex_norm ?_) | (with_reducible refine ex_eq ?_) | ((with_reducible refine ex_ne ?_ ?_); exact rfl) | (with_reducible refine ex_thenR ?_) | (with_reducible refine ex_inN ?_) | (with_reducible refine ex_inR ?_) | (go_at_call 60; refine (IM.out _).mono ?_; rintro e w' ⟨rfl, rfl⟩; simp only []) | go_values | go_skip | go_guarded | go_step | go_upon)
    go_ret
    exact ⟨by first | rfl | (simp; done), by repeat (first | exact Below.refl _ _ | apply below_alloc)⟩
  rw [Bool.true_and]
  simp only [zerR]
  cases z1 : (rs1 == 0)
  case false =>
    rw [Bool.false_and]
    go_enter Try.func52, Try.ntmps52
    repeat' (first | (with_reducible refine ex_then ?_) | (with_reducible refine ex_norm ?_) | (with_reducible refine ex_eq ?_) | ((with_reducible refine ex_ne ?_ ?_); exact rfl) | (with_reducible refine ex_thenR ?_) | (with_reducible refine ex_inN ?_) | (with_reducible refine ex_inR ?_) | (go_at_call 60; refine (IM.out _).mono ?_; rintro e w' ⟨rfl, rfl⟩; simp only []) | go_values | go_skip | go_guarded | go_step | go_upon)
    go_ret
    exact ⟨by first | rfl | (simp; done), by repeat (first | exact Below.refl _ _ | apply below_alloc)⟩
  rw [Bool.true_and]
  go_enter Try.func52, Try.ntmps52
  repeat' (first | (with_reducible refine ex_then ?_) | (with_reducible refine ex_norm ?_) | (with_reducible refine ex_eq ?_) | ((with_reducible refine ex_ne ?_ ?_); exact rfl) | (with_reducible refine ex_thenR ?_) | (with_reducible refine ex_inN ?_) | (with_reducible refine ex_inR ?_) | (go_at_call 60; refine (IM.out _).mono ?_; rintro e w' ⟨rfl, rfl⟩; simp only []) | go_values | go_skip | go_guarded | go_step | go_upon)
  go_ret
  exact ⟨by first | rfl | (simp; done), by repeat (first | exact Below.refl _ _ | apply below_alloc)⟩
set_option maxHeartbeats 8000000 in
set_option maxRecDepth 100000 in
theorem fields_R_2 (o : Int) (nm : ByteArray) (code f3 extra op rd rs1 rs2 imm : Int) (im : Bool) (him : immR 2 imm = im) (w : World) :
    Calls Try.prog 52 #[.agg #[.int .u8 o, .string nm, .int .i64 2, .int .u32 code, .int .u32 f3, .int .u32 extra], .agg #[.int .u8 op, .int .u8 rd, .int .u8 rs1, .int .u8 rs2, .int .i32 imm]] w
      fun e w' => e = .returned (.bool (okR 2 rd rs1 rs2 im)) ∧ Below w.heap.size w w' := by
  have IM : Aside0 (∀ w, Calls Try.prog 60 #[.int .i64 2, .int .i32 imm] w fun e w' => e = .returned (.bool im) ∧ w' = w) := ⟨fun w => by rw [← him]; exact imm_R_2 imm w⟩
  clear him
  by_cases g1 : rd ≤ 15
  case neg =>
    have t1 : decide (15 < rd) = true := decide_eq_true (by omega)
    rw [show okR 2 rd rs1 rs2 im = false from by simp [okR, g1]]
    clear g1
    go_enter Try.func52, Try.ntmps52
    repeat' (first | (with_reducible refine ex_then ?_) | (with_reducible refine ex_norm ?_) | (with_reducible refine ex_eq ?_) | ((with_reducible refine ex_ne ?_ ?_); exact rfl) | (with_reducible refine ex_thenR ?_) | (with_reducible refine ex_inN ?_) | (with_reducible refine ex_inR ?_) | (go_at_call 60; refine (IM.out _).mono ?_; rintro e w' ⟨rfl, rfl⟩; simp only []) | go_values | go_skip | go_guarded | go_step | go_upon)
    go_ret
    exact ⟨by first | rfl | (simp; done), by repeat (first | exact Below.refl _ _ | apply below_alloc)⟩
  have t1 : decide (15 < rd) = false := decide_eq_false (by omega)
  by_cases g2 : rs1 ≤ 15
  case neg =>
    have t2 : decide (15 < rs1) = true := decide_eq_true (by omega)
    rw [show okR 2 rd rs1 rs2 im = false from by simp [okR, g2]]
    clear g1 g2
    go_enter Try.func52, Try.ntmps52
    repeat' (first | (with_reducible refine ex_then ?_) | (with_reducible refine ex_norm ?_) | (with_reducible refine ex_eq ?_) | ((with_reducible refine ex_ne ?_ ?_); exact rfl) | (with_reducible refine ex_thenR ?_) | (with_reducible refine ex_inN ?_) | (with_reducible refine ex_inR ?_) | (go_at_call 60; refine (IM.out _).mono ?_; rintro e w' ⟨rfl, rfl⟩; simp only []) | go_values | go_skip | go_guarded | go_step | go_upon)
    go_ret
    exact ⟨by first | rfl | (simp; done), by repeat (first | exact Below.refl _ _ | apply below_alloc)⟩
  have t2 : decide (15 < rs1) = false := decide_eq_false (by omega)
  by_cases g3 : rs2 ≤ 15
  case neg =>
    have t3 : decide (15 < rs2) = true := decide_eq_true (by omega)
    rw [show okR 2 rd rs1 rs2 im = false from by simp [okR, g3]]
    clear g1 g2 g3
    go_enter Try.func52, Try.ntmps52
    repeat' (first | (with_reducible refine ex_then ?_) | (with_reducible refine ex_norm ?_) | (with_reducible refine ex_eq ?_) | ((with_reducible refine ex_ne ?_ ?_); exact rfl) | (with_reducible refine ex_thenR ?_) | (with_reducible refine ex_inN ?_) | (with_reducible refine ex_inR ?_) | (go_at_call 60; refine (IM.out _).mono ?_; rintro e w' ⟨rfl, rfl⟩; simp only []) | go_values | go_skip | go_guarded | go_step | go_upon)
    go_ret
    exact ⟨by first | rfl | (simp; done), by repeat (first | exact Below.refl _ _ | apply below_alloc)⟩
  have t3 : decide (15 < rs2) = false := decide_eq_false (by omega)
  have hok : okR 2 rd rs1 rs2 im = (im && zerR 2 rd rs1 rs2) := by simp [okR, g1, g2, g3]
  rw [hok]
  clear g1 g2 g3 hok
  cases im
  case false =>
    rw [Bool.false_and]
    go_enter Try.func52, Try.ntmps52
    repeat' (first | (with_reducible refine ex_then ?_) | (with_reducible refine ex_norm ?_) | (with_reducible refine ex_eq ?_) | ((with_reducible refine ex_ne ?_ ?_); exact rfl) | (with_reducible refine ex_thenR ?_) | (with_reducible refine ex_inN ?_) | (with_reducible refine ex_inR ?_) | (go_at_call 60; refine (IM.out _).mono ?_; rintro e w' ⟨rfl, rfl⟩; simp only []) | go_values | go_skip | go_guarded | go_step | go_upon)
    go_ret
    exact ⟨by first | rfl | (simp; done), by repeat (first | exact Below.refl _ _ | apply below_alloc)⟩
  rw [Bool.true_and]
  simp only [zerR]
  go_enter Try.func52, Try.ntmps52
  repeat' (first | (with_reducible refine ex_then ?_) | (with_reducible refine ex_norm ?_) | (with_reducible refine ex_eq ?_) | ((with_reducible refine ex_ne ?_ ?_); exact rfl) | (with_reducible refine ex_thenR ?_) | (with_reducible refine ex_inN ?_) | (with_reducible refine ex_inR ?_) | (go_at_call 60; refine (IM.out _).mono ?_; rintro e w' ⟨rfl, rfl⟩; simp only []) | go_values | go_skip | go_guarded | go_step | go_upon)
  go_ret
  exact ⟨by first | rfl | (simp; done), by repeat (first | exact Below.refl _ _ | apply below_alloc)⟩
set_option maxHeartbeats 8000000 in
set_option maxRecDepth 100000 in
theorem fields_R_3 (o : Int) (nm : ByteArray) (code f3 extra op rd rs1 rs2 imm : Int) (im : Bool) (him : immR 3 imm = im) (w : World) :
    Calls Try.prog 52 #[.agg #[.int .u8 o, .string nm, .int .i64 3, .int .u32 code, .int .u32 f3, .int .u32 extra], .agg #[.int .u8 op, .int .u8 rd, .int .u8 rs1, .int .u8 rs2, .int .i32 imm]] w
      fun e w' => e = .returned (.bool (okR 3 rd rs1 rs2 im)) ∧ Below w.heap.size w w' := by
  have IM : Aside0 (∀ w, Calls Try.prog 60 #[.int .i64 3, .int .i32 imm] w fun e w' => e = .returned (.bool im) ∧ w' = w) := ⟨fun w => by rw [← him]; exact imm_R_3 imm w⟩
  clear him
  by_cases g1 : rd ≤ 15
  case neg =>
    have t1 : decide (15 < rd) = true := decide_eq_true (by omega)
    rw [show okR 3 rd rs1 rs2 im = false from by simp [okR, g1]]
    clear g1
    go_enter Try.func52, Try.ntmps52
    repeat' (first | (with_reducible refine ex_then ?_) | (with_reducible refine ex_norm ?_) | (with_reducible refine ex_eq ?_) | ((with_reducible refine ex_ne ?_ ?_); exact rfl) | (with_reducible refine ex_thenR ?_) | (with_reducible refine ex_inN ?_) | (with_reducible refine ex_inR ?_) | (go_at_call 60; refine (IM.out _).mono ?_; rintro e w' ⟨rfl, rfl⟩; simp only []) | go_values | go_skip | go_guarded | go_step | go_upon)
    go_ret
    exact ⟨by first | rfl | (simp; done), by repeat (first | exact Below.refl _ _ | apply below_alloc)⟩
  have t1 : decide (15 < rd) = false := decide_eq_false (by omega)
  by_cases g2 : rs1 ≤ 15
  case neg =>
    have t2 : decide (15 < rs1) = true := decide_eq_true (by omega)
    rw [show okR 3 rd rs1 rs2 im = false from by simp [okR, g2]]
    clear g1 g2
    go_enter Try.func52, Try.ntmps52
    repeat' (first | (with_reducible refine ex_then ?_) | (with_reducible refine ex_norm ?_) | (with_reducible refine ex_eq ?_) | ((with_reducible refine ex_ne ?_ ?_); exact rfl) | (with_reducible refine ex_thenR ?_) | (with_reducible refine ex_inN ?_) | (with_reducible refine ex_inR ?_) | (go_at_call 60; refine (IM.out _).mono ?_; rintro e w' ⟨rfl, rfl⟩; simp only []) | go_values | go_skip | go_guarded | go_step | go_upon)
    go_ret
    exact ⟨by first | rfl | (simp; done), by repeat (first | exact Below.refl _ _ | apply below_alloc)⟩
  have t2 : decide (15 < rs1) = false := decide_eq_false (by omega)
  by_cases g3 : rs2 ≤ 15
  case neg =>
    have t3 : decide (15 < rs2) = true := decide_eq_true (by omega)
    rw [show okR 3 rd rs1 rs2 im = false from by simp [okR, g3]]
    clear g1 g2 g3
    go_enter Try.func52, Try.ntmps52
    repeat' (first | (with_reducible refine ex_then ?_) | (with_reducible refine ex_norm ?_) | (with_reducible refine ex_eq ?_) | ((with_reducible refine ex_ne ?_ ?_); exact rfl) | (with_reducible refine ex_thenR ?_) | (with_reducible refine ex_inN ?_) | (with_reducible refine ex_inR ?_) | (go_at_call 60; refine (IM.out _).mono ?_; rintro e w' ⟨rfl, rfl⟩; simp only []) | go_values | go_skip | go_guarded | go_step | go_upon)
    go_ret
    exact ⟨by first | rfl | (simp; done), by repeat (first | exact Below.refl _ _ | apply below_alloc)⟩
  have t3 : decide (15 < rs2) = false := decide_eq_false (by omega)
  have hok : okR 3 rd rs1 rs2 im = (im && zerR 3 rd rs1 rs2) := by simp [okR, g1, g2, g3]
  rw [hok]
  clear g1 g2 g3 hok
  cases im
  case false =>
    rw [Bool.false_and]
    go_enter Try.func52, Try.ntmps52
    repeat' (first | (with_reducible refine ex_then ?_) | (with_reducible refine ex_norm ?_) | (with_reducible refine ex_eq ?_) | ((with_reducible refine ex_ne ?_ ?_); exact rfl) | (with_reducible refine ex_thenR ?_) | (with_reducible refine ex_inN ?_) | (with_reducible refine ex_inR ?_) | (go_at_call 60; refine (IM.out _).mono ?_; rintro e w' ⟨rfl, rfl⟩; simp only []) | go_values | go_skip | go_guarded | go_step | go_upon)
    go_ret
    exact ⟨by first | rfl | (simp; done), by repeat (first | exact Below.refl _ _ | apply below_alloc)⟩
  rw [Bool.true_and]
  simp only [zerR]
  go_enter Try.func52, Try.ntmps52
  repeat' (first | (with_reducible refine ex_then ?_) | (with_reducible refine ex_norm ?_) | (with_reducible refine ex_eq ?_) | ((with_reducible refine ex_ne ?_ ?_); exact rfl) | (with_reducible refine ex_thenR ?_) | (with_reducible refine ex_inN ?_) | (with_reducible refine ex_inR ?_) | (go_at_call 60; refine (IM.out _).mono ?_; rintro e w' ⟨rfl, rfl⟩; simp only []) | go_values | go_skip | go_guarded | go_step | go_upon)
  go_ret
  exact ⟨by first | rfl | (simp; done), by repeat (first | exact Below.refl _ _ | apply below_alloc)⟩
set_option maxHeartbeats 8000000 in
set_option maxRecDepth 100000 in
theorem fields_R_4 (o : Int) (nm : ByteArray) (code f3 extra op rd rs1 rs2 imm : Int) (im : Bool) (him : immR 4 imm = im) (w : World) :
    Calls Try.prog 52 #[.agg #[.int .u8 o, .string nm, .int .i64 4, .int .u32 code, .int .u32 f3, .int .u32 extra], .agg #[.int .u8 op, .int .u8 rd, .int .u8 rs1, .int .u8 rs2, .int .i32 imm]] w
      fun e w' => e = .returned (.bool (okR 4 rd rs1 rs2 im)) ∧ Below w.heap.size w w' := by
  have IM : Aside0 (∀ w, Calls Try.prog 60 #[.int .i64 4, .int .i32 imm] w fun e w' => e = .returned (.bool im) ∧ w' = w) := ⟨fun w => by rw [← him]; exact imm_R_4 imm w⟩
  clear him
  by_cases g1 : rd ≤ 15
  case neg =>
    have t1 : decide (15 < rd) = true := decide_eq_true (by omega)
    rw [show okR 4 rd rs1 rs2 im = false from by simp [okR, g1]]
    clear g1
    go_enter Try.func52, Try.ntmps52
    repeat' (first | (with_reducible refine ex_then ?_) | (with_reducible refine ex_norm ?_) | (with_reducible refine ex_eq ?_) | ((with_reducible refine ex_ne ?_ ?_); exact rfl) | (with_reducible refine ex_thenR ?_) | (with_reducible refine ex_inN ?_) | (with_reducible refine ex_inR ?_) | (go_at_call 60; refine (IM.out _).mono ?_; rintro e w' ⟨rfl, rfl⟩; simp only []) | go_values | go_skip | go_guarded | go_step | go_upon)
    go_ret
    exact ⟨by first | rfl | (simp; done), by repeat (first | exact Below.refl _ _ | apply below_alloc)⟩
  have t1 : decide (15 < rd) = false := decide_eq_false (by omega)
  by_cases g2 : rs1 ≤ 15
  case neg =>
    have t2 : decide (15 < rs1) = true := decide_eq_true (by omega)
    rw [show okR 4 rd rs1 rs2 im = false from by simp [okR, g2]]
    clear g1 g2
    go_enter Try.func52, Try.ntmps52
    repeat' (first | (with_reducible refine ex_then ?_) | (with_reducible refine ex_norm ?_) | (with_reducible refine ex_eq ?_) | ((with_reducible refine ex_ne ?_ ?_); exact rfl) | (with_reducible refine ex_thenR ?_) | (with_reducible refine ex_inN ?_) | (with_reducible refine ex_inR ?_) | (go_at_call 60; refine (IM.out _).mono ?_; rintro e w' ⟨rfl, rfl⟩; simp only []) | go_values | go_skip | go_guarded | go_step | go_upon)
    go_ret
    exact ⟨by first | rfl | (simp; done), by repeat (first | exact Below.refl _ _ | apply below_alloc)⟩
  have t2 : decide (15 < rs1) = false := decide_eq_false (by omega)
  by_cases g3 : rs2 ≤ 15
  case neg =>
    have t3 : decide (15 < rs2) = true := decide_eq_true (by omega)
    rw [show okR 4 rd rs1 rs2 im = false from by simp [okR, g3]]
    clear g1 g2 g3
    go_enter Try.func52, Try.ntmps52
    repeat' (first | (with_reducible refine ex_then ?_) | (with_reducible refine ex_norm ?_) | (with_reducible refine ex_eq ?_) | ((with_reducible refine ex_ne ?_ ?_); exact rfl) | (with_reducible refine ex_thenR ?_) | (with_reducible refine ex_inN ?_) | (with_reducible refine ex_inR ?_) | (go_at_call 60; refine (IM.out _).mono ?_; rintro e w' ⟨rfl, rfl⟩; simp only []) | go_values | go_skip | go_guarded | go_step | go_upon)
    go_ret
    exact ⟨by first | rfl | (simp; done), by repeat (first | exact Below.refl _ _ | apply below_alloc)⟩
  have t3 : decide (15 < rs2) = false := decide_eq_false (by omega)
  have hok : okR 4 rd rs1 rs2 im = (im && zerR 4 rd rs1 rs2) := by simp [okR, g1, g2, g3]
  rw [hok]
  clear g1 g2 g3 hok
  cases im
  case false =>
    rw [Bool.false_and]
    go_enter Try.func52, Try.ntmps52
    repeat' (first | (with_reducible refine ex_then ?_) | (with_reducible refine ex_norm ?_) | (with_reducible refine ex_eq ?_) | ((with_reducible refine ex_ne ?_ ?_); exact rfl) | (with_reducible refine ex_thenR ?_) | (with_reducible refine ex_inN ?_) | (with_reducible refine ex_inR ?_) | (go_at_call 60; refine (IM.out _).mono ?_; rintro e w' ⟨rfl, rfl⟩; simp only []) | go_values | go_skip | go_guarded | go_step | go_upon)
    go_ret
    exact ⟨by first | rfl | (simp; done), by repeat (first | exact Below.refl _ _ | apply below_alloc)⟩
  rw [Bool.true_and]
  simp only [zerR]
  go_enter Try.func52, Try.ntmps52
  repeat' (first | (with_reducible refine ex_then ?_) | (with_reducible refine ex_norm ?_) | (with_reducible refine ex_eq ?_) | ((with_reducible refine ex_ne ?_ ?_); exact rfl) | (with_reducible refine ex_thenR ?_) | (with_reducible refine ex_inN ?_) | (with_reducible refine ex_inR ?_) | (go_at_call 60; refine (IM.out _).mono ?_; rintro e w' ⟨rfl, rfl⟩; simp only []) | go_values | go_skip | go_guarded | go_step | go_upon)
  go_ret
  exact ⟨by first | rfl | (simp; done), by repeat (first | exact Below.refl _ _ | apply below_alloc)⟩
set_option maxHeartbeats 8000000 in
set_option maxRecDepth 100000 in
theorem fields_R_5 (o : Int) (nm : ByteArray) (code f3 extra op rd rs1 rs2 imm : Int) (im : Bool) (him : immR 5 imm = im) (w : World) :
    Calls Try.prog 52 #[.agg #[.int .u8 o, .string nm, .int .i64 5, .int .u32 code, .int .u32 f3, .int .u32 extra], .agg #[.int .u8 op, .int .u8 rd, .int .u8 rs1, .int .u8 rs2, .int .i32 imm]] w
      fun e w' => e = .returned (.bool (okR 5 rd rs1 rs2 im)) ∧ Below w.heap.size w w' := by
  have IM : Aside0 (∀ w, Calls Try.prog 60 #[.int .i64 5, .int .i32 imm] w fun e w' => e = .returned (.bool im) ∧ w' = w) := ⟨fun w => by rw [← him]; exact imm_R_5 imm w⟩
  clear him
  by_cases g1 : rd ≤ 15
  case neg =>
    have t1 : decide (15 < rd) = true := decide_eq_true (by omega)
    rw [show okR 5 rd rs1 rs2 im = false from by simp [okR, g1]]
    clear g1
    go_enter Try.func52, Try.ntmps52
    repeat' (first | (with_reducible refine ex_then ?_) | (with_reducible refine ex_norm ?_) | (with_reducible refine ex_eq ?_) | ((with_reducible refine ex_ne ?_ ?_); exact rfl) | (with_reducible refine ex_thenR ?_) | (with_reducible refine ex_inN ?_) | (with_reducible refine ex_inR ?_) | (go_at_call 60; refine (IM.out _).mono ?_; rintro e w' ⟨rfl, rfl⟩; simp only []) | go_values | go_skip | go_guarded | go_step | go_upon)
    go_ret
    exact ⟨by first | rfl | (simp; done), by repeat (first | exact Below.refl _ _ | apply below_alloc)⟩
  have t1 : decide (15 < rd) = false := decide_eq_false (by omega)
  by_cases g2 : rs1 ≤ 15
  case neg =>
    have t2 : decide (15 < rs1) = true := decide_eq_true (by omega)
    rw [show okR 5 rd rs1 rs2 im = false from by simp [okR, g2]]
    clear g1 g2
    go_enter Try.func52, Try.ntmps52
    repeat' (first | (with_reducible refine ex_then ?_) | (with_reducible refine ex_norm ?_) | (with_reducible refine ex_eq ?_) | ((with_reducible refine ex_ne ?_ ?_); exact rfl) | (with_reducible refine ex_thenR ?_) | (with_reducible refine ex_inN ?_) | (with_reducible refine ex_inR ?_) | (go_at_call 60; refine (IM.out _).mono ?_; rintro e w' ⟨rfl, rfl⟩; simp only []) | go_values | go_skip | go_guarded | go_step | go_upon)
    go_ret
    exact ⟨by first | rfl | (simp; done), by repeat (first | exact Below.refl _ _ | apply below_alloc)⟩
  have t2 : decide (15 < rs1) = false := decide_eq_false (by omega)
  by_cases g3 : rs2 ≤ 15
  case neg =>
    have t3 : decide (15 < rs2) = true := decide_eq_true (by omega)
    rw [show okR 5 rd rs1 rs2 im = false from by simp [okR, g3]]
    clear g1 g2 g3
    go_enter Try.func52, Try.ntmps52
    repeat' (first | (with_reducible refine ex_then ?_) | (with_reducible refine ex_norm ?_) | (with_reducible refine ex_eq ?_) | ((with_reducible refine ex_ne ?_ ?_); exact rfl) | (with_reducible refine ex_thenR ?_) | (with_reducible refine ex_inN ?_) | (with_reducible refine ex_inR ?_) | (go_at_call 60; refine (IM.out _).mono ?_; rintro e w' ⟨rfl, rfl⟩; simp only []) | go_values | go_skip | go_guarded | go_step | go_upon)
    go_ret
    exact ⟨by first | rfl | (simp; done), by repeat (first | exact Below.refl _ _ | apply below_alloc)⟩
  have t3 : decide (15 < rs2) = false := decide_eq_false (by omega)
  have hok : okR 5 rd rs1 rs2 im = (im && zerR 5 rd rs1 rs2) := by simp [okR, g1, g2, g3]
  rw [hok]
  clear g1 g2 g3 hok
  cases im
  case false =>
    rw [Bool.false_and]
    go_enter Try.func52, Try.ntmps52
    repeat' (first | (with_reducible refine ex_then ?_) | (with_reducible refine ex_norm ?_) | (with_reducible refine ex_eq ?_) | ((with_reducible refine ex_ne ?_ ?_); exact rfl) | (with_reducible refine ex_thenR ?_) | (with_reducible refine ex_inN ?_) | (with_reducible refine ex_inR ?_) | (go_at_call 60; refine (IM.out _).mono ?_; rintro e w' ⟨rfl, rfl⟩; simp only []) | go_values | go_skip | go_guarded | go_step | go_upon)
    go_ret
    exact ⟨by first | rfl | (simp; done), by repeat (first | exact Below.refl _ _ | apply below_alloc)⟩
  rw [Bool.true_and]
  simp only [zerR]
  go_enter Try.func52, Try.ntmps52
  repeat' (first | (with_reducible refine ex_then ?_) | (with_reducible refine ex_norm ?_) | (with_reducible refine ex_eq ?_) | ((with_reducible refine ex_ne ?_ ?_); exact rfl) | (with_reducible refine ex_thenR ?_) | (with_reducible refine ex_inN ?_) | (with_reducible refine ex_inR ?_) | (go_at_call 60; refine (IM.out _).mono ?_; rintro e w' ⟨rfl, rfl⟩; simp only []) | go_values | go_skip | go_guarded | go_step | go_upon)
  go_ret
  exact ⟨by first | rfl | (simp; done), by repeat (first | exact Below.refl _ _ | apply below_alloc)⟩
set_option maxHeartbeats 8000000 in
set_option maxRecDepth 100000 in
theorem fields_R_6 (o : Int) (nm : ByteArray) (code f3 extra op rd rs1 rs2 imm : Int) (im : Bool) (him : immR 6 imm = im) (w : World) :
    Calls Try.prog 52 #[.agg #[.int .u8 o, .string nm, .int .i64 6, .int .u32 code, .int .u32 f3, .int .u32 extra], .agg #[.int .u8 op, .int .u8 rd, .int .u8 rs1, .int .u8 rs2, .int .i32 imm]] w
      fun e w' => e = .returned (.bool (okR 6 rd rs1 rs2 im)) ∧ Below w.heap.size w w' := by
  have IM : Aside0 (∀ w, Calls Try.prog 60 #[.int .i64 6, .int .i32 imm] w fun e w' => e = .returned (.bool im) ∧ w' = w) := ⟨fun w => by rw [← him]; exact imm_R_6 imm w⟩
  clear him
  by_cases g1 : rd ≤ 15
  case neg =>
    have t1 : decide (15 < rd) = true := decide_eq_true (by omega)
    rw [show okR 6 rd rs1 rs2 im = false from by simp [okR, g1]]
    clear g1
    go_enter Try.func52, Try.ntmps52
    repeat' (first | (with_reducible refine ex_then ?_) | (with_reducible refine ex_norm ?_) | (with_reducible refine ex_eq ?_) | ((with_reducible refine ex_ne ?_ ?_); exact rfl) | (with_reducible refine ex_thenR ?_) | (with_reducible refine ex_inN ?_) | (with_reducible refine ex_inR ?_) | (go_at_call 60; refine (IM.out _).mono ?_; rintro e w' ⟨rfl, rfl⟩; simp only []) | go_values | go_skip | go_guarded | go_step | go_upon)
    go_ret
    exact ⟨by first | rfl | (simp; done), by repeat (first | exact Below.refl _ _ | apply below_alloc)⟩
  have t1 : decide (15 < rd) = false := decide_eq_false (by omega)
  by_cases g2 : rs1 ≤ 15
  case neg =>
    have t2 : decide (15 < rs1) = true := decide_eq_true (by omega)
    rw [show okR 6 rd rs1 rs2 im = false from by simp [okR, g2]]
    clear g1 g2
    go_enter Try.func52, Try.ntmps52
    repeat' (first | (with_reducible refine ex_then ?_) | (with_reducible refine ex_norm ?_) | (with_reducible refine ex_eq ?_) | ((with_reducible refine ex_ne ?_ ?_); exact rfl) | (with_reducible refine ex_thenR ?_) | (with_reducible refine ex_inN ?_) | (with_reducible refine ex_inR ?_) | (go_at_call 60; refine (IM.out _).mono ?_; rintro e w' ⟨rfl, rfl⟩; simp only []) | go_values | go_skip | go_guarded | go_step | go_upon)
    go_ret
    exact ⟨by first | rfl | (simp; done), by repeat (first | exact Below.refl _ _ | apply below_alloc)⟩
  have t2 : decide (15 < rs1) = false := decide_eq_false (by omega)
  by_cases g3 : rs2 ≤ 15
  case neg =>
    have t3 : decide (15 < rs2) = true := decide_eq_true (by omega)
    rw [show okR 6 rd rs1 rs2 im = false from by simp [okR, g3]]
    clear g1 g2 g3
    go_enter Try.func52, Try.ntmps52
    repeat' (first | (with_reducible refine ex_then ?_) | (with_reducible refine ex_norm ?_) | (with_reducible refine ex_eq ?_) | ((with_reducible refine ex_ne ?_ ?_); exact rfl) | (with_reducible refine ex_thenR ?_) | (with_reducible refine ex_inN ?_) | (with_reducible refine ex_inR ?_) | (go_at_call 60; refine (IM.out _).mono ?_; rintro e w' ⟨rfl, rfl⟩; simp only []) | go_values | go_skip | go_guarded | go_step | go_upon)
    go_ret
    exact ⟨by first | rfl | (simp; done), by repeat (first | exact Below.refl _ _ | apply below_alloc)⟩
  have t3 : decide (15 < rs2) = false := decide_eq_false (by omega)
  have hok : okR 6 rd rs1 rs2 im = (im && zerR 6 rd rs1 rs2) := by simp [okR, g1, g2, g3]
  rw [hok]
  clear g1 g2 g3 hok
  cases im
  case false =>
    rw [Bool.false_and]
    go_enter Try.func52, Try.ntmps52
    repeat' (first | (with_reducible refine ex_then ?_) | (with_reducible refine ex_norm ?_) | (with_reducible refine ex_eq ?_) | ((with_reducible refine ex_ne ?_ ?_); exact rfl) | (with_reducible refine ex_thenR ?_) | (with_reducible refine ex_inN ?_) | (with_reducible refine ex_inR ?_) | (go_at_call 60; refine (IM.out _).mono ?_; rintro e w' ⟨rfl, rfl⟩; simp only []) | go_values | go_skip | go_guarded | go_step | go_upon)
    go_ret
    exact ⟨by first | rfl | (simp; done), by repeat (first | exact Below.refl _ _ | apply below_alloc)⟩
  rw [Bool.true_and]
  simp only [zerR]
  go_enter Try.func52, Try.ntmps52
  repeat' (first | (with_reducible refine ex_then ?_) | (with_reducible refine ex_norm ?_) | (with_reducible refine ex_eq ?_) | ((with_reducible refine ex_ne ?_ ?_); exact rfl) | (with_reducible refine ex_thenR ?_) | (with_reducible refine ex_inN ?_) | (with_reducible refine ex_inR ?_) | (go_at_call 60; refine (IM.out _).mono ?_; rintro e w' ⟨rfl, rfl⟩; simp only []) | go_values | go_skip | go_guarded | go_step | go_upon)
  go_ret
  exact ⟨by first | rfl | (simp; done), by repeat (first | exact Below.refl _ _ | apply below_alloc)⟩
set_option maxHeartbeats 8000000 in
set_option maxRecDepth 100000 in
theorem fields_R_7 (o : Int) (nm : ByteArray) (code f3 extra op rd rs1 rs2 imm : Int) (im : Bool) (him : immR 7 imm = im) (w : World) :
    Calls Try.prog 52 #[.agg #[.int .u8 o, .string nm, .int .i64 7, .int .u32 code, .int .u32 f3, .int .u32 extra], .agg #[.int .u8 op, .int .u8 rd, .int .u8 rs1, .int .u8 rs2, .int .i32 imm]] w
      fun e w' => e = .returned (.bool (okR 7 rd rs1 rs2 im)) ∧ Below w.heap.size w w' := by
  have IM : Aside0 (∀ w, Calls Try.prog 60 #[.int .i64 7, .int .i32 imm] w fun e w' => e = .returned (.bool im) ∧ w' = w) := ⟨fun w => by rw [← him]; exact imm_R_7 imm w⟩
  clear him
  by_cases g1 : rd ≤ 15
  case neg =>
    have t1 : decide (15 < rd) = true := decide_eq_true (by omega)
    rw [show okR 7 rd rs1 rs2 im = false from by simp [okR, g1]]
    clear g1
    go_enter Try.func52, Try.ntmps52
    repeat' (first | (with_reducible refine ex_then ?_) | (with_reducible refine ex_norm ?_) | (with_reducible refine ex_eq ?_) | ((with_reducible refine ex_ne ?_ ?_); exact rfl) | (with_reducible refine ex_thenR ?_) | (with_reducible refine ex_inN ?_) | (with_reducible refine ex_inR ?_) | (go_at_call 60; refine (IM.out _).mono ?_; rintro e w' ⟨rfl, rfl⟩; simp only []) | go_values | go_skip | go_guarded | go_step | go_upon)
    go_ret
    exact ⟨by first | rfl | (simp; done), by repeat (first | exact Below.refl _ _ | apply below_alloc)⟩
  have t1 : decide (15 < rd) = false := decide_eq_false (by omega)
  by_cases g2 : rs1 ≤ 15
  case neg =>
    have t2 : decide (15 < rs1) = true := decide_eq_true (by omega)
    rw [show okR 7 rd rs1 rs2 im = false from by simp [okR, g2]]
    clear g1 g2
    go_enter Try.func52, Try.ntmps52
    repeat' (first | (with_reducible refine ex_then ?_) | (with_reducible refine ex_norm ?_) | (with_reducible refine ex_eq ?_) | ((with_reducible refine ex_ne ?_ ?_); exact rfl) | (with_reducible refine ex_thenR ?_) | (with_reducible refine ex_inN ?_) | (with_reducible refine ex_inR ?_) | (go_at_call 60; refine (IM.out _).mono ?_; rintro e w' ⟨rfl, rfl⟩; simp only []) | go_values | go_skip | go_guarded | go_step | go_upon)
    go_ret
    exact ⟨by first | rfl | (simp; done), by repeat (first | exact Below.refl _ _ | apply below_alloc)⟩
  have t2 : decide (15 < rs1) = false := decide_eq_false (by omega)
  by_cases g3 : rs2 ≤ 15
  case neg =>
    have t3 : decide (15 < rs2) = true := decide_eq_true (by omega)
    rw [show okR 7 rd rs1 rs2 im = false from by simp [okR, g3]]
    clear g1 g2 g3
    go_enter Try.func52, Try.ntmps52
    repeat' (first | (with_reducible refine ex_then ?_) | (with_reducible refine ex_norm ?_) | (with_reducible refine ex_eq ?_) | ((with_reducible refine ex_ne ?_ ?_); exact rfl) | (with_reducible refine ex_thenR ?_) | (with_reducible refine ex_inN ?_) | (with_reducible refine ex_inR ?_) | (go_at_call 60; refine (IM.out _).mono ?_; rintro e w' ⟨rfl, rfl⟩; simp only []) | go_values | go_skip | go_guarded | go_step | go_upon)
    go_ret
    exact ⟨by first | rfl | (simp; done), by repeat (first | exact Below.refl _ _ | apply below_alloc)⟩
  have t3 : decide (15 < rs2) = false := decide_eq_false (by omega)
  have hok : okR 7 rd rs1 rs2 im = (im && zerR 7 rd rs1 rs2) := by simp [okR, g1, g2, g3]
  rw [hok]
  clear g1 g2 g3 hok
  cases im
  case false =>
    rw [Bool.false_and]
    go_enter Try.func52, Try.ntmps52
    repeat' (first | (with_reducible refine ex_then ?_) | (with_reducible refine ex_norm ?_) | (with_reducible refine ex_eq ?_) | ((with_reducible refine ex_ne ?_ ?_); exact rfl) | (with_reducible refine ex_thenR ?_) | (with_reducible refine ex_inN ?_) | (with_reducible refine ex_inR ?_) | (go_at_call 60; refine (IM.out _).mono ?_; rintro e w' ⟨rfl, rfl⟩; simp only []) | go_values | go_skip | go_guarded | go_step | go_upon)
    go_ret
    exact ⟨by first | rfl | (simp; done), by repeat (first | exact Below.refl _ _ | apply below_alloc)⟩
  rw [Bool.true_and]
  simp only [zerR]
  go_enter Try.func52, Try.ntmps52
  repeat' (first | (with_reducible refine ex_then ?_) | (with_reducible refine ex_norm ?_) | (with_reducible refine ex_eq ?_) | ((with_reducible refine ex_ne ?_ ?_); exact rfl) | (with_reducible refine ex_thenR ?_) | (with_reducible refine ex_inN ?_) | (with_reducible refine ex_inR ?_) | (go_at_call 60; refine (IM.out _).mono ?_; rintro e w' ⟨rfl, rfl⟩; simp only []) | go_values | go_skip | go_guarded | go_step | go_upon)
  go_ret
  exact ⟨by first | rfl | (simp; done), by repeat (first | exact Below.refl _ _ | apply below_alloc)⟩
set_option maxHeartbeats 8000000 in
set_option maxRecDepth 100000 in
theorem fields_R_8 (o : Int) (nm : ByteArray) (code f3 extra op rd rs1 rs2 imm : Int) (im : Bool) (him : immR 8 imm = im) (w : World) :
    Calls Try.prog 52 #[.agg #[.int .u8 o, .string nm, .int .i64 8, .int .u32 code, .int .u32 f3, .int .u32 extra], .agg #[.int .u8 op, .int .u8 rd, .int .u8 rs1, .int .u8 rs2, .int .i32 imm]] w
      fun e w' => e = .returned (.bool (okR 8 rd rs1 rs2 im)) ∧ Below w.heap.size w w' := by
  have IM : Aside0 (∀ w, Calls Try.prog 60 #[.int .i64 8, .int .i32 imm] w fun e w' => e = .returned (.bool im) ∧ w' = w) := ⟨fun w => by rw [← him]; exact imm_R_8 imm w⟩
  clear him
  by_cases g1 : rd ≤ 15
  case neg =>
    have t1 : decide (15 < rd) = true := decide_eq_true (by omega)
    rw [show okR 8 rd rs1 rs2 im = false from by simp [okR, g1]]
    clear g1
    go_enter Try.func52, Try.ntmps52
    repeat' (first | (with_reducible refine ex_then ?_) | (with_reducible refine ex_norm ?_) | (with_reducible refine ex_eq ?_) | ((with_reducible refine ex_ne ?_ ?_); exact rfl) | (with_reducible refine ex_thenR ?_) | (with_reducible refine ex_inN ?_) | (with_reducible refine ex_inR ?_) | (go_at_call 60; refine (IM.out _).mono ?_; rintro e w' ⟨rfl, rfl⟩; simp only []) | go_values | go_skip | go_guarded | go_step | go_upon)
    go_ret
    exact ⟨by first | rfl | (simp; done), by repeat (first | exact Below.refl _ _ | apply below_alloc)⟩
  have t1 : decide (15 < rd) = false := decide_eq_false (by omega)
  by_cases g2 : rs1 ≤ 15
  case neg =>
    have t2 : decide (15 < rs1) = true := decide_eq_true (by omega)
    rw [show okR 8 rd rs1 rs2 im = false from by simp [okR, g2]]
    clear g1 g2
    go_enter Try.func52, Try.ntmps52
    repeat' (first | (with_reducible refine ex_then ?_) | (with_reducible refine ex_norm ?_) | (with_reducible refine ex_eq ?_) | ((with_reducible refine ex_ne ?_ ?_); exact rfl) | (with_reducible refine ex_thenR ?_) | (with_reducible refine ex_inN ?_) | (with_reducible refine ex_inR ?_) | (go_at_call 60; refine (IM.out _).mono ?_; rintro e w' ⟨rfl, rfl⟩; simp only []) | go_values | go_skip | go_guarded | go_step | go_upon)
    go_ret
    exact ⟨by first | rfl | (simp; done), by repeat (first | exact Below.refl _ _ | apply below_alloc)⟩
  have t2 : decide (15 < rs1) = false := decide_eq_false (by omega)
  by_cases g3 : rs2 ≤ 15
  case neg =>
    have t3 : decide (15 < rs2) = true := decide_eq_true (by omega)
    rw [show okR 8 rd rs1 rs2 im = false from by simp [okR, g3]]
    clear g1 g2 g3
    go_enter Try.func52, Try.ntmps52
    repeat' (first | (with_reducible refine ex_then ?_) | (with_reducible refine ex_norm ?_) | (with_reducible refine ex_eq ?_) | ((with_reducible refine ex_ne ?_ ?_); exact rfl) | (with_reducible refine ex_thenR ?_) | (with_reducible refine ex_inN ?_) | (with_reducible refine ex_inR ?_) | (go_at_call 60; refine (IM.out _).mono ?_; rintro e w' ⟨rfl, rfl⟩; simp only []) | go_values | go_skip | go_guarded | go_step | go_upon)
    go_ret
    exact ⟨by first | rfl | (simp; done), by repeat (first | exact Below.refl _ _ | apply below_alloc)⟩
  have t3 : decide (15 < rs2) = false := decide_eq_false (by omega)
  have hok : okR 8 rd rs1 rs2 im = (im && zerR 8 rd rs1 rs2) := by simp [okR, g1, g2, g3]
  rw [hok]
  clear g1 g2 g3 hok
  cases im
  case false =>
    rw [Bool.false_and]
    go_enter Try.func52, Try.ntmps52
    repeat' (first | (with_reducible refine ex_then ?_) | (with_reducible refine ex_norm ?_) | (with_reducible refine ex_eq ?_) | ((with_reducible refine ex_ne ?_ ?_); exact rfl) | (with_reducible refine ex_thenR ?_) | (with_reducible refine ex_inN ?_) | (with_reducible refine ex_inR ?_) | (go_at_call 60; refine (IM.out _).mono ?_; rintro e w' ⟨rfl, rfl⟩; simp only []) | go_values | go_skip | go_guarded | go_step | go_upon)
    go_ret
    exact ⟨by first | rfl | (simp; done), by repeat (first | exact Below.refl _ _ | apply below_alloc)⟩
  rw [Bool.true_and]
  simp only [zerR]
  go_enter Try.func52, Try.ntmps52
  repeat' (first | (with_reducible refine ex_then ?_) | (with_reducible refine ex_norm ?_) | (with_reducible refine ex_eq ?_) | ((with_reducible refine ex_ne ?_ ?_); exact rfl) | (with_reducible refine ex_thenR ?_) | (with_reducible refine ex_inN ?_) | (with_reducible refine ex_inR ?_) | (go_at_call 60; refine (IM.out _).mono ?_; rintro e w' ⟨rfl, rfl⟩; simp only []) | go_values | go_skip | go_guarded | go_step | go_upon)
  go_ret
  exact ⟨by first | rfl | (simp; done), by repeat (first | exact Below.refl _ _ | apply below_alloc)⟩
set_option maxHeartbeats 8000000 in
set_option maxRecDepth 100000 in
theorem fields_R_9 (o : Int) (nm : ByteArray) (code f3 extra op rd rs1 rs2 imm : Int) (im : Bool) (him : immR 9 imm = im) (w : World) :
    Calls Try.prog 52 #[.agg #[.int .u8 o, .string nm, .int .i64 9, .int .u32 code, .int .u32 f3, .int .u32 extra], .agg #[.int .u8 op, .int .u8 rd, .int .u8 rs1, .int .u8 rs2, .int .i32 imm]] w
      fun e w' => e = .returned (.bool (okR 9 rd rs1 rs2 im)) ∧ Below w.heap.size w w' := by
  have IM : Aside0 (∀ w, Calls Try.prog 60 #[.int .i64 9, .int .i32 imm] w fun e w' => e = .returned (.bool im) ∧ w' = w) := ⟨fun w => by rw [← him]; exact imm_R_9 imm w⟩
  clear him
  by_cases g1 : rd ≤ 15
  case neg =>
    have t1 : decide (15 < rd) = true := decide_eq_true (by omega)
    rw [show okR 9 rd rs1 rs2 im = false from by simp [okR, g1]]
    clear g1
    go_enter Try.func52, Try.ntmps52
    repeat' (first | (with_reducible refine ex_then ?_) | (with_reducible refine ex_norm ?_) | (with_reducible refine ex_eq ?_) | ((with_reducible refine ex_ne ?_ ?_); exact rfl) | (with_reducible refine ex_thenR ?_) | (with_reducible refine ex_inN ?_) | (with_reducible refine ex_inR ?_) | (go_at_call 60; refine (IM.out _).mono ?_; rintro e w' ⟨rfl, rfl⟩; simp only []) | go_values | go_skip | go_guarded | go_step | go_upon)
    go_ret
    exact ⟨by first | rfl | (simp; done), by repeat (first | exact Below.refl _ _ | apply below_alloc)⟩
  have t1 : decide (15 < rd) = false := decide_eq_false (by omega)
  by_cases g2 : rs1 ≤ 15
  case neg =>
    have t2 : decide (15 < rs1) = true := decide_eq_true (by omega)
    rw [show okR 9 rd rs1 rs2 im = false from by simp [okR, g2]]
    clear g1 g2
    go_enter Try.func52, Try.ntmps52
    repeat' (first | (with_reducible refine ex_then ?_) | (with_reducible refine ex_norm ?_) | (with_reducible refine ex_eq ?_) | ((with_reducible refine ex_ne ?_ ?_); exact rfl) | (with_reducible refine ex_thenR ?_) | (with_reducible refine ex_inN ?_) | (with_reducible refine ex_inR ?_) | (go_at_call 60; refine (IM.out _).mono ?_; rintro e w' ⟨rfl, rfl⟩; simp only []) | go_values | go_skip | go_guarded | go_step | go_upon)
    go_ret
    exact ⟨by first | rfl | (simp; done), by repeat (first | exact Below.refl _ _ | apply below_alloc)⟩
  have t2 : decide (15 < rs1) = false := decide_eq_false (by omega)
  by_cases g3 : rs2 ≤ 15
  case neg =>
    have t3 : decide (15 < rs2) = true := decide_eq_true (by omega)
    rw [show okR 9 rd rs1 rs2 im = false from by simp [okR, g3]]
    clear g1 g2 g3
    go_enter Try.func52, Try.ntmps52
    repeat' (first | (with_reducible refine ex_then ?_) | (with_reducible refine ex_norm ?_) | (with_reducible refine ex_eq ?_) | ((with_reducible refine ex_ne ?_ ?_); exact rfl) | (with_reducible refine ex_thenR ?_) | (with_reducible refine ex_inN ?_) | (with_reducible refine ex_inR ?_) | (go_at_call 60; refine (IM.out _).mono ?_; rintro e w' ⟨rfl, rfl⟩; simp only []) | go_values | go_skip | go_guarded | go_step | go_upon)
    go_ret
    exact ⟨by first | rfl | (simp; done), by repeat (first | exact Below.refl _ _ | apply below_alloc)⟩
  have t3 : decide (15 < rs2) = false := decide_eq_false (by omega)
  have hok : okR 9 rd rs1 rs2 im = (im && zerR 9 rd rs1 rs2) := by simp [okR, g1, g2, g3]
  rw [hok]
  clear g1 g2 g3 hok
  cases im
  case false =>
    rw [Bool.false_and]
    go_enter Try.func52, Try.ntmps52
    repeat' (first | (with_reducible refine ex_then ?_) | (with_reducible refine ex_norm ?_) | (with_reducible refine ex_eq ?_) | ((with_reducible refine ex_ne ?_ ?_); exact rfl) | (with_reducible refine ex_thenR ?_) | (with_reducible refine ex_inN ?_) | (with_reducible refine ex_inR ?_) | (go_at_call 60; refine (IM.out _).mono ?_; rintro e w' ⟨rfl, rfl⟩; simp only []) | go_values | go_skip | go_guarded | go_step | go_upon)
    go_ret
    exact ⟨by first | rfl | (simp; done), by repeat (first | exact Below.refl _ _ | apply below_alloc)⟩
  rw [Bool.true_and]
  simp only [zerR]
  go_enter Try.func52, Try.ntmps52
  repeat' (first | (with_reducible refine ex_then ?_) | (with_reducible refine ex_norm ?_) | (with_reducible refine ex_eq ?_) | ((with_reducible refine ex_ne ?_ ?_); exact rfl) | (with_reducible refine ex_thenR ?_) | (with_reducible refine ex_inN ?_) | (with_reducible refine ex_inR ?_) | (go_at_call 60; refine (IM.out _).mono ?_; rintro e w' ⟨rfl, rfl⟩; simp only []) | go_values | go_skip | go_guarded | go_step | go_upon)
  go_ret
  exact ⟨by first | rfl | (simp; done), by repeat (first | exact Below.refl _ _ | apply below_alloc)⟩
set_option maxHeartbeats 8000000 in
set_option maxRecDepth 100000 in
theorem fields_R_10 (o : Int) (nm : ByteArray) (code f3 extra op rd rs1 rs2 imm : Int) (im : Bool) (him : immR 10 imm = im) (w : World) :
    Calls Try.prog 52 #[.agg #[.int .u8 o, .string nm, .int .i64 10, .int .u32 code, .int .u32 f3, .int .u32 extra], .agg #[.int .u8 op, .int .u8 rd, .int .u8 rs1, .int .u8 rs2, .int .i32 imm]] w
      fun e w' => e = .returned (.bool (okR 10 rd rs1 rs2 im)) ∧ Below w.heap.size w w' := by
  have IM : Aside0 (∀ w, Calls Try.prog 60 #[.int .i64 10, .int .i32 imm] w fun e w' => e = .returned (.bool im) ∧ w' = w) := ⟨fun w => by rw [← him]; exact imm_R_10 imm w⟩
  clear him
  by_cases g1 : rd ≤ 15
  case neg =>
    have t1 : decide (15 < rd) = true := decide_eq_true (by omega)
    rw [show okR 10 rd rs1 rs2 im = false from by simp [okR, g1]]
    clear g1
    go_enter Try.func52, Try.ntmps52
    repeat' (first | (with_reducible refine ex_then ?_) | (with_reducible refine ex_norm ?_) | (with_reducible refine ex_eq ?_) | ((with_reducible refine ex_ne ?_ ?_); exact rfl) | (with_reducible refine ex_thenR ?_) | (with_reducible refine ex_inN ?_) | (with_reducible refine ex_inR ?_) | (go_at_call 60; refine (IM.out _).mono ?_; rintro e w' ⟨rfl, rfl⟩; simp only []) | go_values | go_skip | go_guarded | go_step | go_upon)
    go_ret
    exact ⟨by first | rfl | (simp; done), by repeat (first | exact Below.refl _ _ | apply below_alloc)⟩
  have t1 : decide (15 < rd) = false := decide_eq_false (by omega)
  by_cases g2 : rs1 ≤ 15
  case neg =>
    have t2 : decide (15 < rs1) = true := decide_eq_true (by omega)
    rw [show okR 10 rd rs1 rs2 im = false from by simp [okR, g2]]
    clear g1 g2
    go_enter Try.func52, Try.ntmps52
    repeat' (first | (with_reducible refine ex_then ?_) | (with_reducible refine ex_norm ?_) | (with_reducible refine ex_eq ?_) | ((with_reducible refine ex_ne ?_ ?_); exact rfl) | (with_reducible refine ex_thenR ?_) | (with_reducible refine ex_inN ?_) | (with_reducible refine ex_inR ?_) | (go_at_call 60; refine (IM.out _).mono ?_; rintro e w' ⟨rfl, rfl⟩; simp only []) | go_values | go_skip | go_guarded | go_step | go_upon)
    go_ret
    exact ⟨by first | rfl | (simp; done), by repeat (first | exact Below.refl _ _ | apply below_alloc)⟩
  have t2 : decide (15 < rs1) = false := decide_eq_false (by omega)
  by_cases g3 : rs2 ≤ 15
  case neg =>
    have t3 : decide (15 < rs2) = true := decide_eq_true (by omega)
    rw [show okR 10 rd rs1 rs2 im = false from by simp [okR, g3]]
    clear g1 g2 g3
    go_enter Try.func52, Try.ntmps52
    repeat' (first | (with_reducible refine ex_then ?_) | (with_reducible refine ex_norm ?_) | (with_reducible refine ex_eq ?_) | ((with_reducible refine ex_ne ?_ ?_); exact rfl) | (with_reducible refine ex_thenR ?_) | (with_reducible refine ex_inN ?_) | (with_reducible refine ex_inR ?_) | (go_at_call 60; refine (IM.out _).mono ?_; rintro e w' ⟨rfl, rfl⟩; simp only []) | go_values | go_skip | go_guarded | go_step | go_upon)
    go_ret
    exact ⟨by first | rfl | (simp; done), by repeat (first | exact Below.refl _ _ | apply below_alloc)⟩
  have t3 : decide (15 < rs2) = false := decide_eq_false (by omega)
  have hok : okR 10 rd rs1 rs2 im = (im && zerR 10 rd rs1 rs2) := by simp [okR, g1, g2, g3]
  rw [hok]
  clear g1 g2 g3 hok
  cases im
  case false =>
    rw [Bool.false_and]
    go_enter Try.func52, Try.ntmps52
    repeat' (first | (with_reducible refine ex_then ?_) | (with_reducible refine ex_norm ?_) | (with_reducible refine ex_eq ?_) | ((with_reducible refine ex_ne ?_ ?_); exact rfl) | (with_reducible refine ex_thenR ?_) | (with_reducible refine ex_inN ?_) | (with_reducible refine ex_inR ?_) | (go_at_call 60; refine (IM.out _).mono ?_; rintro e w' ⟨rfl, rfl⟩; simp only []) | go_values | go_skip | go_guarded | go_step | go_upon)
    go_ret
    exact ⟨by first | rfl | (simp; done), by repeat (first | exact Below.refl _ _ | apply below_alloc)⟩
  rw [Bool.true_and]
  simp only [zerR]
  cases z1 : (rd == 0)
  case false =>
    rw [Bool.false_and, Bool.false_and]
    go_enter Try.func52, Try.ntmps52
    repeat' (first | (with_reducible refine ex_then ?_) | (with_reducible refine ex_norm ?_) | (with_reducible refine ex_eq ?_) | ((with_reducible refine ex_ne ?_ ?_); exact rfl) | (with_reducible refine ex_thenR ?_) | (with_reducible refine ex_inN ?_) | (with_reducible refine ex_inR ?_) | (go_at_call 60; refine (IM.out _).mono ?_; rintro e w' ⟨rfl, rfl⟩; simp only []) | go_values | go_skip | go_guarded | go_step | go_upon)
    go_ret
    exact ⟨by first | rfl | (simp; done), by repeat (first | exact Below.refl _ _ | apply below_alloc)⟩
  rw [Bool.true_and]
  cases z2 : (rs1 == 0)
  case false =>
    rw [Bool.false_and]
    go_enter Try.func52, Try.ntmps52
    repeat' (first | (with_reducible refine ex_then ?_) | (with_reducible refine ex_norm ?_) | (with_reducible refine ex_eq ?_) | ((with_reducible refine ex_ne ?_ ?_); exact rfl) | (with_reducible refine ex_thenR ?_) | (with_reducible refine ex_inN ?_) | (with_reducible refine ex_inR ?_) | (go_at_call 60; refine (IM.out _).mono ?_; rintro e w' ⟨rfl, rfl⟩; simp only []) | go_values | go_skip | go_guarded | go_step | go_upon)
    go_ret
    exact ⟨by first | rfl | (simp; done), by repeat (first | exact Below.refl _ _ | apply below_alloc)⟩
  rw [Bool.true_and]
  go_enter Try.func52, Try.ntmps52
  repeat' (first | (with_reducible refine ex_then ?_) | (with_reducible refine ex_norm ?_) | (with_reducible refine ex_eq ?_) | ((with_reducible refine ex_ne ?_ ?_); exact rfl) | (with_reducible refine ex_thenR ?_) | (with_reducible refine ex_inN ?_) | (with_reducible refine ex_inR ?_) | (go_at_call 60; refine (IM.out _).mono ?_; rintro e w' ⟨rfl, rfl⟩; simp only []) | go_values | go_skip | go_guarded | go_step | go_upon)
  go_ret
  exact ⟨by first | rfl | (simp; done), by repeat (first | exact Below.refl _ _ | apply below_alloc)⟩
end Go.Proofs.Ythkbjoglhfclmaa.Ins
