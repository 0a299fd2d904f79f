/- Contract of ref05.Put: putS. No condition beyond the kinds' bounds. -/
import Derived.Test.YthkbjoglhfclmaaQInsR1
import Derived.Test.YthkbjoglhfclmaaQInsL
import Derived.Deep.QuietTactic
namespace Go.Proofs.Ythkbjoglhfclmaa.Ins
open Go.RowKit Go.Proofs.YthkbjoglhfclmaaW.PrintWords Go.Proofs.YthkbjoglhfclmaaW.PrintLast Go.Proofs.Ythkbjoglhfclmaa.Alu Go.Proofs.Ythkbjoglhfclmaa.InsP
set_option linter.unusedVariables false
set_option linter.unusedSimpArgs false
set_option maxHeartbeats 8000000 in
set_option maxRecDepth 100000 in
theorem rput_bad (rf : Int) (o rd rs1 rs2 imm : Int) (nm : ByteArray) (code f3 extra : Int)
    (b1 : 0 ≤ rd ∧ rd < 256) (b2 : 0 ≤ rs1 ∧ rs1 < 256) (b3 : 0 ≤ rs2 ∧ rs2 < 256) (b4 : -2147483648 ≤ imm ∧ imm < 2147483648)
    (RC : Aside0 (∀ w, Calls Try.prog 51 #[.int .u8 o] w fun e w' => e = .returned (.tuple #[.agg #[.int .u8 o, .string nm, .int .i64 rf, .int .u32 code, .int .u32 f3, .int .u32 extra], .bool true]) ∧ Below w.heap.size w w'))
    (FC : Aside0 (∀ w, Calls Try.prog 52 #[.agg #[.int .u8 o, .string nm, .int .i64 rf, .int .u32 code, .int .u32 f3, .int .u32 extra], .agg #[.int .u8 o, .int .u8 rd, .int .u8 rs1, .int .u8 rs2, .int .i32 imm]] w fun e w' => e = .returned (.bool false) ∧ Below w.heap.size w w')) (w : World) :
    Calls Try.prog 26 #[.agg #[.int .u8 o, .int .u8 rd, .int .u8 rs1, .int .u8 rs2, .int .i32 imm]] w fun e w' => e = .returned (.tuple #[.int .u32 0, .int .i64 2]) ∧ Below w.heap.size w w' := by
  go_enter Try.func26, Try.ntmps26
  go_wp2_with fail
  refine (RC.out _).mono ?_
  rintro e w1 ⟨rfl, hb⟩
  have hP : InsAt w1 w.heap.size o rd rs1 rs2 imm := kept hb (new_block w _)
  have HB1 : Aside0 (Below w.heap.size w w1) := ⟨((Below.refl _ _).alloc (Nat.le_refl _) _).trans (hb.mono (by simp))⟩
  have hl1 : w.heap.size < w1.heap.size := block_lt hP
  have HP := Aside0.mk hP
  have q0 := cell_of_block hP 0
  have q1 := cell_of_block hP 1
  have q2 := cell_of_block hP 2
  have q3 := cell_of_block hP 3
  have q4 := cell_of_block hP 4
  simp at q0 q1 q2 q3 q4
  clear hb hP
  go_wp2_with fail
  refine (FC.out _).mono ?_
  rintro e w2 ⟨rfl, hb2⟩
  have hP2 : InsAt w2 w.heap.size o rd rs1 rs2 imm := kept hb2 (kept_alloc HP.out)
  have hR2 : w2.heap[w1.heap.size]? = some (.cells #[.int .u8 o, .string nm, .int .i64 rf, .int .u32 code, .int .u32 f3, .int .u32 extra] 79 (0, 0)) := kept hb2 (new_block w1 _)
  have hl2 : w.heap.size < w2.heap.size := block_lt hP2
  have hl3 : w1.heap.size < w2.heap.size := block_lt hR2
  have HB2 : Aside0 (Below w.heap.size w w2) := ⟨(HB1.out.alloc (Nat.le_of_lt hl1) _).trans (hb2.mono (by simp; omega))⟩
  clear q0 q1 q2 q3 q4
  have q0 := cell_of_block hP2 0
  have q1 := cell_of_block hP2 1
  have q2 := cell_of_block hP2 2
  have q3 := cell_of_block hP2 3
  have q4 := cell_of_block hP2 4
  have r2 := cell_of_block hR2 2
  have r3 := cell_of_block hR2 3
  have r4 := cell_of_block hR2 4
  have r5 := cell_of_block hR2 5
  simp at q0 q1 q2 q3 q4 r2 r3 r4 r5
  clear hb2 hP2 hR2 HP
  simp only []
  go_wp2
  go_ret2
  exact ⟨by first | rfl | simp, HB2.out⟩
set_option maxHeartbeats 8000000 in
set_option maxRecDepth 100000 in
theorem rput_none (o rd rs1 rs2 imm : Int) (RC : Aside0 (∀ w, Calls Try.prog 51 #[.int .u8 o] w fun e w' => e = .returned (.tuple #[.agg #[.int .u8 0, .string ⟨#[]⟩, .int .i64 0, .int .u32 0, .int .u32 0, .int .u32 0], .bool false]) ∧ Below w.heap.size w w')) (w : World) :
    Calls Try.prog 26 #[.agg #[.int .u8 o, .int .u8 rd, .int .u8 rs1, .int .u8 rs2, .int .i32 imm]] w fun e w' => e = .returned (.tuple #[.int .u32 0, .int .i64 2]) ∧ Below w.heap.size w w' := by
  go_enter Try.func26, Try.ntmps26
  go_wp2_with fail
  refine (RC.out _).mono ?_
  rintro e w1 ⟨rfl, hb⟩
  have HB1 : Aside0 (Below w.heap.size w w1) := ⟨((Below.refl _ _).alloc (Nat.le_refl _) _).trans (hb.mono (by simp))⟩
  clear hb
  go_wp2
  go_ret2
  exact ⟨by first | rfl | simp, HB1.out.alloc HB1.out.size _⟩
set_option maxHeartbeats 8000000 in
set_option maxRecDepth 100000 in
theorem rput_0 (o rd rs1 rs2 imm : Int) (nm : ByteArray) (code f3 extra : Int)
    (b1 : 0 ≤ rd ∧ rd < 256) (b2 : 0 ≤ rs1 ∧ rs1 < 256) (b3 : 0 ≤ rs2 ∧ rs2 < 256) (b4 : -2147483648 ≤ imm ∧ imm < 2147483648)
    (RC : Aside0 (∀ w, Calls Try.prog 51 #[.int .u8 o] w fun e w' => e = .returned (.tuple #[.agg #[.int .u8 o, .string nm, .int .i64 0, .int .u32 code, .int .u32 f3, .int .u32 extra], .bool true]) ∧ Below w.heap.size w w'))
    (FC : Aside0 (∀ w, Calls Try.prog 52 #[.agg #[.int .u8 o, .string nm, .int .i64 0, .int .u32 code, .int .u32 f3, .int .u32 extra], .agg #[.int .u8 o, .int .u8 rd, .int .u8 rs1, .int .u8 rs2, .int .i32 imm]] w fun e w' => e = .returned (.bool true) ∧ Below w.heap.size w w')) (w : World) :
    Calls Try.prog 26 #[.agg #[.int .u8 o, .int .u8 rd, .int .u8 rs1, .int .u8 rs2, .int .i32 imm]] w fun e w' => e = .returned (.tuple #[.int .u32 ((Go.bits .or .u32 (Go.bits .or .u32 (Go.bits .or .u32 code (f3 * 4096 % 4294967296)) (rd * 128)) (imm % 4294967296))), .int .i64 0]) ∧ Below w.heap.size w w' := by
  go_enter Try.func26, Try.ntmps26
  go_wp2_with fail
  refine (RC.out _).mono ?_
  rintro e w1 ⟨rfl, hb⟩
  have hP : InsAt w1 w.heap.size o rd rs1 rs2 imm := kept hb (new_block w _)
  have HB1 : Aside0 (Below w.heap.size w w1) := ⟨((Below.refl _ _).alloc (Nat.le_refl _) _).trans (hb.mono (by simp))⟩
  have hl1 : w.heap.size < w1.heap.size := block_lt hP
  have HP := Aside0.mk hP
  have q0 := cell_of_block hP 0
  have q1 := cell_of_block hP 1
  have q2 := cell_of_block hP 2
  have q3 := cell_of_block hP 3
  have q4 := cell_of_block hP 4
  simp at q0 q1 q2 q3 q4
  clear hb hP
  go_wp2_with fail
  refine (FC.out _).mono ?_
  rintro e w2 ⟨rfl, hb2⟩
  have hP2 : InsAt w2 w.heap.size o rd rs1 rs2 imm := kept hb2 (kept_alloc HP.out)
  have hR2 : w2.heap[w1.heap.size]? = some (.cells #[.int .u8 o, .string nm, .int .i64 0, .int .u32 code, .int .u32 f3, .int .u32 extra] 79 (0, 0)) := kept hb2 (new_block w1 _)
  have hl2 : w.heap.size < w2.heap.size := block_lt hP2
  have hl3 : w1.heap.size < w2.heap.size := block_lt hR2
  have HB2 : Aside0 (Below w.heap.size w w2) := ⟨(HB1.out.alloc (Nat.le_of_lt hl1) _).trans (hb2.mono (by simp; omega))⟩
  clear q0 q1 q2 q3 q4
  have q0 := cell_of_block hP2 0
  have q1 := cell_of_block hP2 1
  have q2 := cell_of_block hP2 2
  have q3 := cell_of_block hP2 3
  have q4 := cell_of_block hP2 4
  have r2 := cell_of_block hR2 2
  have r3 := cell_of_block hR2 3
  have r4 := cell_of_block hR2 4
  have r5 := cell_of_block hR2 5
  simp at q0 q1 q2 q3 q4 r2 r3 r4 r5
  clear hb2 hP2 hR2 HP
  simp only []
  go_wp2_with (fail)
  go_quiet (fail)
  repeat' (first | (with_reducible refine ex_then ?_) | (with_reducible refine ex_norm ?_) | (with_reducible refine ex_eq ?_) | ((with_reducible refine ex_ne ?_ ?_); exact rfl) | (with_reducible refine ex_thenR ?_) | (with_reducible refine ex_inN ?_) | (with_reducible refine ex_inR ?_) | (go_at_call 53; (first | (with_reducible refine (bits_20_1 _ _ (by omega) (by omega)).mono ?_) | (with_reducible refine (bits_1_10 _ _ (by omega) (by omega)).mono ?_) | (with_reducible refine (bits_11_1 _ _ (by omega) (by omega)).mono ?_) | (with_reducible refine (bits_12_8 _ _ (by omega) (by omega)).mono ?_) | (with_reducible refine (bits_0_12 _ _ (by omega) (by omega)).mono ?_) | (with_reducible refine (bits_0_5 _ _ (by omega) (by omega)).mono ?_) | (with_reducible refine (bits_5_7 _ _ (by omega) (by omega)).mono ?_) | (with_reducible refine (bits_1_4 _ _ (by omega) (by omega)).mono ?_) | (with_reducible refine (bits_5_6 _ _ (by omega) (by omega)).mono ?_) | (with_reducible refine (bits_12_1 _ _ (by omega) (by omega)).mono ?_) ); rintro e w' ⟨rfl, rfl⟩; simp only []) | go_values | go_skip | go_guarded | go_step | go_upon)
  go_ret2
  exact ⟨by first | rfl | (simp; done), by repeat (first | exact HB2.out | apply below_drew | apply pw_below_drewN)⟩
set_option maxHeartbeats 8000000 in
set_option maxRecDepth 100000 in
theorem rput_1 (o rd rs1 rs2 imm : Int) (nm : ByteArray) (code f3 extra : Int)
    (b1 : 0 ≤ rd ∧ rd < 256) (b2 : 0 ≤ rs1 ∧ rs1 < 256) (b3 : 0 ≤ rs2 ∧ rs2 < 256) (b4 : -2147483648 ≤ imm ∧ imm < 2147483648)
    (RC : Aside0 (∀ w, Calls Try.prog 51 #[.int .u8 o] w fun e w' => e = .returned (.tuple #[.agg #[.int .u8 o, .string nm, .int .i64 1, .int .u32 code, .int .u32 f3, .int .u32 extra], .bool true]) ∧ Below w.heap.size w w'))
    (FC : Aside0 (∀ w, Calls Try.prog 52 #[.agg #[.int .u8 o, .string nm, .int .i64 1, .int .u32 code, .int .u32 f3, .int .u32 extra], .agg #[.int .u8 o, .int .u8 rd, .int .u8 rs1, .int .u8 rs2, .int .i32 imm]] w fun e w' => e = .returned (.bool true) ∧ Below w.heap.size w w')) (w : World) :
    Calls Try.prog 26 #[.agg #[.int .u8 o, .int .u8 rd, .int .u8 rs1, .int .u8 rs2, .int .i32 imm]] w fun e w' => e = .returned (.tuple #[.int .u32 ((Go.bits .or .u32 (Go.bits .or .u32 (Go.bits .or .u32 (Go.bits .or .u32 (Go.bits .or .u32 (Go.bits .or .u32 code (f3 * 4096 % 4294967296)) (rd * 128)) (imm % 4294967296 / 1048576 % 2 * 2147483648)) (imm % 4294967296 / 2 % 1024 * 2097152)) (imm % 4294967296 / 2048 % 2 * 1048576)) (imm % 4294967296 / 4096 % 256 * 4096))), .int .i64 0]) ∧ Below w.heap.size w w' := by
  go_enter Try.func26, Try.ntmps26
  go_wp2_with fail
  refine (RC.out _).mono ?_
  rintro e w1 ⟨rfl, hb⟩
  have hP : InsAt w1 w.heap.size o rd rs1 rs2 imm := kept hb (new_block w _)
  have HB1 : Aside0 (Below w.heap.size w w1) := ⟨((Below.refl _ _).alloc (Nat.le_refl _) _).trans (hb.mono (by simp))⟩
  have hl1 : w.heap.size < w1.heap.size := block_lt hP
  have HP := Aside0.mk hP
  have q0 := cell_of_block hP 0
  have q1 := cell_of_block hP 1
  have q2 := cell_of_block hP 2
  have q3 := cell_of_block hP 3
  have q4 := cell_of_block hP 4
  simp at q0 q1 q2 q3 q4
  clear hb hP
  go_wp2_with fail
  refine (FC.out _).mono ?_
  rintro e w2 ⟨rfl, hb2⟩
  have hP2 : InsAt w2 w.heap.size o rd rs1 rs2 imm := kept hb2 (kept_alloc HP.out)
  have hR2 : w2.heap[w1.heap.size]? = some (.cells #[.int .u8 o, .string nm, .int .i64 1, .int .u32 code, .int .u32 f3, .int .u32 extra] 79 (0, 0)) := kept hb2 (new_block w1 _)
  have hl2 : w.heap.size < w2.heap.size := block_lt hP2
  have hl3 : w1.heap.size < w2.heap.size := block_lt hR2
  have HB2 : Aside0 (Below w.heap.size w w2) := ⟨(HB1.out.alloc (Nat.le_of_lt hl1) _).trans (hb2.mono (by simp; omega))⟩
  clear q0 q1 q2 q3 q4
  have q0 := cell_of_block hP2 0
  have q1 := cell_of_block hP2 1
  have q2 := cell_of_block hP2 2
  have q3 := cell_of_block hP2 3
  have q4 := cell_of_block hP2 4
  have r2 := cell_of_block hR2 2
  have r3 := cell_of_block hR2 3
  have r4 := cell_of_block hR2 4
  have r5 := cell_of_block hR2 5
  simp at q0 q1 q2 q3 q4 r2 r3 r4 r5
  clear hb2 hP2 hR2 HP
  simp only []
  go_wp2_with (fail)
  go_quiet (fail)
  repeat' (first | (with_reducible refine ex_then ?_) | (with_reducible refine ex_norm ?_) | (with_reducible refine ex_eq ?_) | ((with_reducible refine ex_ne ?_ ?_); exact rfl) | (with_reducible refine ex_thenR ?_) | (with_reducible refine ex_inN ?_) | (with_reducible refine ex_inR ?_) | (go_at_call 53; (first | (with_reducible refine (bits_20_1 _ _ (by omega) (by omega)).mono ?_) | (with_reducible refine (bits_1_10 _ _ (by omega) (by omega)).mono ?_) | (with_reducible refine (bits_11_1 _ _ (by omega) (by omega)).mono ?_) | (with_reducible refine (bits_12_8 _ _ (by omega) (by omega)).mono ?_) | (with_reducible refine (bits_0_12 _ _ (by omega) (by omega)).mono ?_) | (with_reducible refine (bits_0_5 _ _ (by omega) (by omega)).mono ?_) | (with_reducible refine (bits_5_7 _ _ (by omega) (by omega)).mono ?_) | (with_reducible refine (bits_1_4 _ _ (by omega) (by omega)).mono ?_) | (with_reducible refine (bits_5_6 _ _ (by omega) (by omega)).mono ?_) | (with_reducible refine (bits_12_1 _ _ (by omega) (by omega)).mono ?_) ); rintro e w' ⟨rfl, rfl⟩; simp only []) | go_values | go_skip | go_guarded | go_step | go_upon)
  go_ret2
  exact ⟨by first | rfl | (simp; done), by repeat (first | exact HB2.out | apply below_drew | apply pw_below_drewN)⟩
set_option maxHeartbeats 8000000 in
set_option maxRecDepth 100000 in
theorem rput_2 (o rd rs1 rs2 imm : Int) (nm : ByteArray) (code f3 extra : Int)
    (b1 : 0 ≤ rd ∧ rd < 256) (b2 : 0 ≤ rs1 ∧ rs1 < 256) (b3 : 0 ≤ rs2 ∧ rs2 < 256) (b4 : -2147483648 ≤ imm ∧ imm < 2147483648)
    (RC : Aside0 (∀ w, Calls Try.prog 51 #[.int .u8 o] w fun e w' => e = .returned (.tuple #[.agg #[.int .u8 o, .string nm, .int .i64 2, .int .u32 code, .int .u32 f3, .int .u32 extra], .bool true]) ∧ Below w.heap.size w w'))
    (FC : Aside0 (∀ w, Calls Try.prog 52 #[.agg #[.int .u8 o, .string nm, .int .i64 2, .int .u32 code, .int .u32 f3, .int .u32 extra], .agg #[.int .u8 o, .int .u8 rd, .int .u8 rs1, .int .u8 rs2, .int .i32 imm]] w fun e w' => e = .returned (.bool true) ∧ Below w.heap.size w w')) (w : World) :
    Calls Try.prog 26 #[.agg #[.int .u8 o, .int .u8 rd, .int .u8 rs1, .int .u8 rs2, .int .i32 imm]] w fun e w' => e = .returned (.tuple #[.int .u32 ((Go.bits .or .u32 (Go.bits .or .u32 (Go.bits .or .u32 (Go.bits .or .u32 code (f3 * 4096 % 4294967296)) (rd * 128)) (rs1 * 32768)) (imm % 4096 * 1048576))), .int .i64 0]) ∧ Below w.heap.size w w' := by
  go_enter Try.func26, Try.ntmps26
  go_wp2_with fail
  refine (RC.out _).mono ?_
  rintro e w1 ⟨rfl, hb⟩
  have hP : InsAt w1 w.heap.size o rd rs1 rs2 imm := kept hb (new_block w _)
  have HB1 : Aside0 (Below w.heap.size w w1) := ⟨((Below.refl _ _).alloc (Nat.le_refl _) _).trans (hb.mono (by simp))⟩
  have hl1 : w.heap.size < w1.heap.size := block_lt hP
  have HP := Aside0.mk hP
  have q0 := cell_of_block hP 0
  have q1 := cell_of_block hP 1
  have q2 := cell_of_block hP 2
  have q3 := cell_of_block hP 3
  have q4 := cell_of_block hP 4
  simp at q0 q1 q2 q3 q4
  clear hb hP
  go_wp2_with fail
  refine (FC.out _).mono ?_
  rintro e w2 ⟨rfl, hb2⟩
  have hP2 : InsAt w2 w.heap.size o rd rs1 rs2 imm := kept hb2 (kept_alloc HP.out)
  have hR2 : w2.heap[w1.heap.size]? = some (.cells #[.int .u8 o, .string nm, .int .i64 2, .int .u32 code, .int .u32 f3, .int .u32 extra] 79 (0, 0)) := kept hb2 (new_block w1 _)
  have hl2 : w.heap.size < w2.heap.size := block_lt hP2
  have hl3 : w1.heap.size < w2.heap.size := block_lt hR2
  have HB2 : Aside0 (Below w.heap.size w w2) := ⟨(HB1.out.alloc (Nat.le_of_lt hl1) _).trans (hb2.mono (by simp; omega))⟩
  clear q0 q1 q2 q3 q4
  have q0 := cell_of_block hP2 0
  have q1 := cell_of_block hP2 1
  have q2 := cell_of_block hP2 2
  have q3 := cell_of_block hP2 3
  have q4 := cell_of_block hP2 4
  have r2 := cell_of_block hR2 2
  have r3 := cell_of_block hR2 3
  have r4 := cell_of_block hR2 4
  have r5 := cell_of_block hR2 5
  simp at q0 q1 q2 q3 q4 r2 r3 r4 r5
  clear hb2 hP2 hR2 HP
  simp only []
  go_wp2_with (fail)
  go_quiet (fail)
  repeat' (first | (with_reducible refine ex_then ?_) | (with_reducible refine ex_norm ?_) | (with_reducible refine ex_eq ?_) | ((with_reducible refine ex_ne ?_ ?_); exact rfl) | (with_reducible refine ex_thenR ?_) | (with_reducible refine ex_inN ?_) | (with_reducible refine ex_inR ?_) | (go_at_call 53; (first | (with_reducible refine (bits_20_1 _ _ (by omega) (by omega)).mono ?_) | (with_reducible refine (bits_1_10 _ _ (by omega) (by omega)).mono ?_) | (with_reducible refine (bits_11_1 _ _ (by omega) (by omega)).mono ?_) | (with_reducible refine (bits_12_8 _ _ (by omega) (by omega)).mono ?_) | (with_reducible refine (bits_0_12 _ _ (by omega) (by omega)).mono ?_) | (with_reducible refine (bits_0_5 _ _ (by omega) (by omega)).mono ?_) | (with_reducible refine (bits_5_7 _ _ (by omega) (by omega)).mono ?_) | (with_reducible refine (bits_1_4 _ _ (by omega) (by omega)).mono ?_) | (with_reducible refine (bits_5_6 _ _ (by omega) (by omega)).mono ?_) | (with_reducible refine (bits_12_1 _ _ (by omega) (by omega)).mono ?_) ); rintro e w' ⟨rfl, rfl⟩; simp only []) | go_values | go_skip | go_guarded | go_step | go_upon)
  go_ret2
  exact ⟨by first | rfl | (simp; done), by repeat (first | exact HB2.out | apply below_drew | apply pw_below_drewN)⟩
set_option maxHeartbeats 8000000 in
set_option maxRecDepth 100000 in
theorem rput_3 (o rd rs1 rs2 imm : Int) (nm : ByteArray) (code f3 extra : Int)
    (b1 : 0 ≤ rd ∧ rd < 256) (b2 : 0 ≤ rs1 ∧ rs1 < 256) (b3 : 0 ≤ rs2 ∧ rs2 < 256) (b4 : -2147483648 ≤ imm ∧ imm < 2147483648)
    (RC : Aside0 (∀ w, Calls Try.prog 51 #[.int .u8 o] w fun e w' => e = .returned (.tuple #[.agg #[.int .u8 o, .string nm, .int .i64 3, .int .u32 code, .int .u32 f3, .int .u32 extra], .bool true]) ∧ Below w.heap.size w w'))
    (FC : Aside0 (∀ w, Calls Try.prog 52 #[.agg #[.int .u8 o, .string nm, .int .i64 3, .int .u32 code, .int .u32 f3, .int .u32 extra], .agg #[.int .u8 o, .int .u8 rd, .int .u8 rs1, .int .u8 rs2, .int .i32 imm]] w fun e w' => e = .returned (.bool true) ∧ Below w.heap.size w w')) (w : World) :
    Calls Try.prog 26 #[.agg #[.int .u8 o, .int .u8 rd, .int .u8 rs1, .int .u8 rs2, .int .i32 imm]] w fun e w' => e = .returned (.tuple #[.int .u32 ((Go.bits .or .u32 (Go.bits .or .u32 (Go.bits .or .u32 (Go.bits .or .u32 code (f3 * 4096 % 4294967296)) (rd * 128)) (rs1 * 32768)) (imm % 4096 * 1048576))), .int .i64 0]) ∧ Below w.heap.size w w' := by
  go_enter Try.func26, Try.ntmps26
  go_wp2_with fail
  refine (RC.out _).mono ?_
  rintro e w1 ⟨rfl, hb⟩
  have hP : InsAt w1 w.heap.size o rd rs1 rs2 imm := kept hb (new_block w _)
  have HB1 : Aside0 (Below w.heap.size w w1) := ⟨((Below.refl _ _).alloc (Nat.le_refl _) _).trans (hb.mono (by simp))⟩
  have hl1 : w.heap.size < w1.heap.size := block_lt hP
  have HP := Aside0.mk hP
  have q0 := cell_of_block hP 0
  have q1 := cell_of_block hP 1
  have q2 := cell_of_block hP 2
  have q3 := cell_of_block hP 3
  have q4 := cell_of_block hP 4
  simp at q0 q1 q2 q3 q4
  clear hb hP
  go_wp2_with fail
  refine (FC.out _).mono ?_
  rintro e w2 ⟨rfl, hb2⟩
  have hP2 : InsAt w2 w.heap.size o rd rs1 rs2 imm := kept hb2 (kept_alloc HP.out)
  have hR2 : w2.heap[w1.heap.size]? = some (.cells #[.int .u8 o, .string nm, .int .i64 3, .int .u32 code, .int .u32 f3, .int .u32 extra] 79 (0, 0)) := kept hb2 (new_block w1 _)
  have hl2 : w.heap.size < w2.heap.size := block_lt hP2
  have hl3 : w1.heap.size < w2.heap.size := block_lt hR2
  have HB2 : Aside0 (Below w.heap.size w w2) := ⟨(HB1.out.alloc (Nat.le_of_lt hl1) _).trans (hb2.mono (by simp; omega))⟩
  clear q0 q1 q2 q3 q4
  have q0 := cell_of_block hP2 0
  have q1 := cell_of_block hP2 1
  have q2 := cell_of_block hP2 2
  have q3 := cell_of_block hP2 3
  have q4 := cell_of_block hP2 4
  have r2 := cell_of_block hR2 2
  have r3 := cell_of_block hR2 3
  have r4 := cell_of_block hR2 4
  have r5 := cell_of_block hR2 5
  simp at q0 q1 q2 q3 q4 r2 r3 r4 r5
  clear hb2 hP2 hR2 HP
  simp only []
  go_wp2_with (fail)
  go_quiet (fail)
  repeat' (first | (with_reducible refine ex_then ?_) | (with_reducible refine ex_norm ?_) | (with_reducible refine ex_eq ?_) | ((with_reducible refine ex_ne ?_ ?_); exact rfl) | (with_reducible refine ex_thenR ?_) | (with_reducible refine ex_inN ?_) | (with_reducible refine ex_inR ?_) | (go_at_call 53; (first | (with_reducible refine (bits_20_1 _ _ (by omega) (by omega)).mono ?_) | (with_reducible refine (bits_1_10 _ _ (by omega) (by omega)).mono ?_) | (with_reducible refine (bits_11_1 _ _ (by omega) (by omega)).mono ?_) | (with_reducible refine (bits_12_8 _ _ (by omega) (by omega)).mono ?_) | (with_reducible refine (bits_0_12 _ _ (by omega) (by omega)).mono ?_) | (with_reducible refine (bits_0_5 _ _ (by omega) (by omega)).mono ?_) | (with_reducible refine (bits_5_7 _ _ (by omega) (by omega)).mono ?_) | (with_reducible refine (bits_1_4 _ _ (by omega) (by omega)).mono ?_) | (with_reducible refine (bits_5_6 _ _ (by omega) (by omega)).mono ?_) | (with_reducible refine (bits_12_1 _ _ (by omega) (by omega)).mono ?_) ); rintro e w' ⟨rfl, rfl⟩; simp only []) | go_values | go_skip | go_guarded | go_step | go_upon)
  go_ret2
  exact ⟨by first | rfl | (simp; done), by repeat (first | exact HB2.out | apply below_drew | apply pw_below_drewN)⟩
set_option maxHeartbeats 8000000 in
set_option maxRecDepth 100000 in
theorem rput_4 (o rd rs1 rs2 imm : Int) (nm : ByteArray) (code f3 extra : Int)
    (b1 : 0 ≤ rd ∧ rd < 256) (b2 : 0 ≤ rs1 ∧ rs1 < 256) (b3 : 0 ≤ rs2 ∧ rs2 < 256) (b4 : -2147483648 ≤ imm ∧ imm < 2147483648)
    (RC : Aside0 (∀ w, Calls Try.prog 51 #[.int .u8 o] w fun e w' => e = .returned (.tuple #[.agg #[.int .u8 o, .string nm, .int .i64 4, .int .u32 code, .int .u32 f3, .int .u32 extra], .bool true]) ∧ Below w.heap.size w w'))
    (FC : Aside0 (∀ w, Calls Try.prog 52 #[.agg #[.int .u8 o, .string nm, .int .i64 4, .int .u32 code, .int .u32 f3, .int .u32 extra], .agg #[.int .u8 o, .int .u8 rd, .int .u8 rs1, .int .u8 rs2, .int .i32 imm]] w fun e w' => e = .returned (.bool true) ∧ Below w.heap.size w w')) (w : World) :
    Calls Try.prog 26 #[.agg #[.int .u8 o, .int .u8 rd, .int .u8 rs1, .int .u8 rs2, .int .i32 imm]] w fun e w' => e = .returned (.tuple #[.int .u32 ((Go.bits .or .u32 (Go.bits .or .u32 (Go.bits .or .u32 (Go.bits .or .u32 (Go.bits .or .u32 code (f3 * 4096 % 4294967296)) (rd * 128)) (rs1 * 32768)) (imm % 4294967296 * 1048576 % 4294967296)) (extra * 33554432 % 4294967296))), .int .i64 0]) ∧ Below w.heap.size w w' := by
  go_enter Try.func26, Try.ntmps26
  go_wp2_with fail
  refine (RC.out _).mono ?_
  rintro e w1 ⟨rfl, hb⟩
  have hP : InsAt w1 w.heap.size o rd rs1 rs2 imm := kept hb (new_block w _)
  have HB1 : Aside0 (Below w.heap.size w w1) := ⟨((Below.refl _ _).alloc (Nat.le_refl _) _).trans (hb.mono (by simp))⟩
  have hl1 : w.heap.size < w1.heap.size := block_lt hP
  have HP := Aside0.mk hP
  have q0 := cell_of_block hP 0
  have q1 := cell_of_block hP 1
  have q2 := cell_of_block hP 2
  have q3 := cell_of_block hP 3
  have q4 := cell_of_block hP 4
  simp at q0 q1 q2 q3 q4
  clear hb hP
  go_wp2_with fail
  refine (FC.out _).mono ?_
  rintro e w2 ⟨rfl, hb2⟩
  have hP2 : InsAt w2 w.heap.size o rd rs1 rs2 imm := kept hb2 (kept_alloc HP.out)
  have hR2 : w2.heap[w1.heap.size]? = some (.cells #[.int .u8 o, .string nm, .int .i64 4, .int .u32 code, .int .u32 f3, .int .u32 extra] 79 (0, 0)) := kept hb2 (new_block w1 _)
  have hl2 : w.heap.size < w2.heap.size := block_lt hP2
  have hl3 : w1.heap.size < w2.heap.size := block_lt hR2
  have HB2 : Aside0 (Below w.heap.size w w2) := ⟨(HB1.out.alloc (Nat.le_of_lt hl1) _).trans (hb2.mono (by simp; omega))⟩
  clear q0 q1 q2 q3 q4
  have q0 := cell_of_block hP2 0
  have q1 := cell_of_block hP2 1
  have q2 := cell_of_block hP2 2
  have q3 := cell_of_block hP2 3
  have q4 := cell_of_block hP2 4
  have r2 := cell_of_block hR2 2
  have r3 := cell_of_block hR2 3
  have r4 := cell_of_block hR2 4
  have r5 := cell_of_block hR2 5
  simp at q0 q1 q2 q3 q4 r2 r3 r4 r5
  clear hb2 hP2 hR2 HP
  simp only []
  go_wp2_with (fail)
  go_quiet (fail)
  repeat' (first | (with_reducible refine ex_then ?_) | (with_reducible refine ex_norm ?_) | (with_reducible refine ex_eq ?_) | ((with_reducible refine ex_ne ?_ ?_); exact rfl) | (with_reducible refine ex_thenR ?_) | (with_reducible refine ex_inN ?_) | (with_reducible refine ex_inR ?_) | (go_at_call 53; (first | (with_reducible refine (bits_20_1 _ _ (by omega) (by omega)).mono ?_) | (with_reducible refine (bits_1_10 _ _ (by omega) (by omega)).mono ?_) | (with_reducible refine (bits_11_1 _ _ (by omega) (by omega)).mono ?_) | (with_reducible refine (bits_12_8 _ _ (by omega) (by omega)).mono ?_) | (with_reducible refine (bits_0_12 _ _ (by omega) (by omega)).mono ?_) | (with_reducible refine (bits_0_5 _ _ (by omega) (by omega)).mono ?_) | (with_reducible refine (bits_5_7 _ _ (by omega) (by omega)).mono ?_) | (with_reducible refine (bits_1_4 _ _ (by omega) (by omega)).mono ?_) | (with_reducible refine (bits_5_6 _ _ (by omega) (by omega)).mono ?_) | (with_reducible refine (bits_12_1 _ _ (by omega) (by omega)).mono ?_) ); rintro e w' ⟨rfl, rfl⟩; simp only []) | go_values | go_skip | go_guarded | go_step | go_upon)
  go_ret2
  exact ⟨by first | rfl | (simp; done), by repeat (first | exact HB2.out | apply below_drew | apply pw_below_drewN)⟩
set_option maxHeartbeats 8000000 in
set_option maxRecDepth 100000 in
theorem rput_5 (o rd rs1 rs2 imm : Int) (nm : ByteArray) (code f3 extra : Int)
    (b1 : 0 ≤ rd ∧ rd < 256) (b2 : 0 ≤ rs1 ∧ rs1 < 256) (b3 : 0 ≤ rs2 ∧ rs2 < 256) (b4 : -2147483648 ≤ imm ∧ imm < 2147483648)
    (RC : Aside0 (∀ w, Calls Try.prog 51 #[.int .u8 o] w fun e w' => e = .returned (.tuple #[.agg #[.int .u8 o, .string nm, .int .i64 5, .int .u32 code, .int .u32 f3, .int .u32 extra], .bool true]) ∧ Below w.heap.size w w'))
    (FC : Aside0 (∀ w, Calls Try.prog 52 #[.agg #[.int .u8 o, .string nm, .int .i64 5, .int .u32 code, .int .u32 f3, .int .u32 extra], .agg #[.int .u8 o, .int .u8 rd, .int .u8 rs1, .int .u8 rs2, .int .i32 imm]] w fun e w' => e = .returned (.bool true) ∧ Below w.heap.size w w')) (w : World) :
    Calls Try.prog 26 #[.agg #[.int .u8 o, .int .u8 rd, .int .u8 rs1, .int .u8 rs2, .int .i32 imm]] w fun e w' => e = .returned (.tuple #[.int .u32 ((Go.bits .or .u32 (Go.bits .or .u32 (Go.bits .or .u32 (Go.bits .or .u32 (Go.bits .or .u32 code (f3 * 4096 % 4294967296)) (rs1 * 32768)) (rs2 * 1048576)) (imm % 32 * 128)) (imm % 4294967296 / 32 % 128 * 33554432))), .int .i64 0]) ∧ Below w.heap.size w w' := by
  go_enter Try.func26, Try.ntmps26
  go_wp2_with fail
  refine (RC.out _).mono ?_
  rintro e w1 ⟨rfl, hb⟩
  have hP : InsAt w1 w.heap.size o rd rs1 rs2 imm := kept hb (new_block w _)
  have HB1 : Aside0 (Below w.heap.size w w1) := ⟨((Below.refl _ _).alloc (Nat.le_refl _) _).trans (hb.mono (by simp))⟩
  have hl1 : w.heap.size < w1.heap.size := block_lt hP
  have HP := Aside0.mk hP
  have q0 := cell_of_block hP 0
  have q1 := cell_of_block hP 1
  have q2 := cell_of_block hP 2
  have q3 := cell_of_block hP 3
  have q4 := cell_of_block hP 4
  simp at q0 q1 q2 q3 q4
  clear hb hP
  go_wp2_with fail
  refine (FC.out _).mono ?_
  rintro e w2 ⟨rfl, hb2⟩
  have hP2 : InsAt w2 w.heap.size o rd rs1 rs2 imm := kept hb2 (kept_alloc HP.out)
  have hR2 : w2.heap[w1.heap.size]? = some (.cells #[.int .u8 o, .string nm, .int .i64 5, .int .u32 code, .int .u32 f3, .int .u32 extra] 79 (0, 0)) := kept hb2 (new_block w1 _)
  have hl2 : w.heap.size < w2.heap.size := block_lt hP2
  have hl3 : w1.heap.size < w2.heap.size := block_lt hR2
  have HB2 : Aside0 (Below w.heap.size w w2) := ⟨(HB1.out.alloc (Nat.le_of_lt hl1) _).trans (hb2.mono (by simp; omega))⟩
  clear q0 q1 q2 q3 q4
  have q0 := cell_of_block hP2 0
  have q1 := cell_of_block hP2 1
  have q2 := cell_of_block hP2 2
  have q3 := cell_of_block hP2 3
  have q4 := cell_of_block hP2 4
  have r2 := cell_of_block hR2 2
  have r3 := cell_of_block hR2 3
  have r4 := cell_of_block hR2 4
  have r5 := cell_of_block hR2 5
  simp at q0 q1 q2 q3 q4 r2 r3 r4 r5
  clear hb2 hP2 hR2 HP
  simp only []
  go_wp2_with (fail)
  go_quiet (fail)
  repeat' (first | (with_reducible refine ex_then ?_) | (with_reducible refine ex_norm ?_) | (with_reducible refine ex_eq ?_) | ((with_reducible refine ex_ne ?_ ?_); exact rfl) | (with_reducible refine ex_thenR ?_) | (with_reducible refine ex_inN ?_) | (with_reducible refine ex_inR ?_) | (go_at_call 53; (first | (with_reducible refine (bits_20_1 _ _ (by omega) (by omega)).mono ?_) | (with_reducible refine (bits_1_10 _ _ (by omega) (by omega)).mono ?_) | (with_reducible refine (bits_11_1 _ _ (by omega) (by omega)).mono ?_) | (with_reducible refine (bits_12_8 _ _ (by omega) (by omega)).mono ?_) | (with_reducible refine (bits_0_12 _ _ (by omega) (by omega)).mono ?_) | (with_reducible refine (bits_0_5 _ _ (by omega) (by omega)).mono ?_) | (with_reducible refine (bits_5_7 _ _ (by omega) (by omega)).mono ?_) | (with_reducible refine (bits_1_4 _ _ (by omega) (by omega)).mono ?_) | (with_reducible refine (bits_5_6 _ _ (by omega) (by omega)).mono ?_) | (with_reducible refine (bits_12_1 _ _ (by omega) (by omega)).mono ?_) ); rintro e w' ⟨rfl, rfl⟩; simp only []) | go_values | go_skip | go_guarded | go_step | go_upon)
  go_ret2
  exact ⟨by first | rfl | (simp; done), by repeat (first | exact HB2.out | apply below_drew | apply pw_below_drewN)⟩
set_option maxHeartbeats 8000000 in
set_option maxRecDepth 100000 in
theorem rput_6 (o rd rs1 rs2 imm : Int) (nm : ByteArray) (code f3 extra : Int)
    (b1 : 0 ≤ rd ∧ rd < 256) (b2 : 0 ≤ rs1 ∧ rs1 < 256) (b3 : 0 ≤ rs2 ∧ rs2 < 256) (b4 : -2147483648 ≤ imm ∧ imm < 2147483648)
    (RC : Aside0 (∀ w, Calls Try.prog 51 #[.int .u8 o] w fun e w' => e = .returned (.tuple #[.agg #[.int .u8 o, .string nm, .int .i64 6, .int .u32 code, .int .u32 f3, .int .u32 extra], .bool true]) ∧ Below w.heap.size w w'))
    (FC : Aside0 (∀ w, Calls Try.prog 52 #[.agg #[.int .u8 o, .string nm, .int .i64 6, .int .u32 code, .int .u32 f3, .int .u32 extra], .agg #[.int .u8 o, .int .u8 rd, .int .u8 rs1, .int .u8 rs2, .int .i32 imm]] w fun e w' => e = .returned (.bool true) ∧ Below w.heap.size w w')) (w : World) :
    Calls Try.prog 26 #[.agg #[.int .u8 o, .int .u8 rd, .int .u8 rs1, .int .u8 rs2, .int .i32 imm]] w fun e w' => e = .returned (.tuple #[.int .u32 ((Go.bits .or .u32 (Go.bits .or .u32 (Go.bits .or .u32 (Go.bits .or .u32 (Go.bits .or .u32 (Go.bits .or .u32 (Go.bits .or .u32 code (f3 * 4096 % 4294967296)) (rs1 * 32768)) (rs2 * 1048576)) (imm % 4294967296 / 2048 % 2 * 128)) (imm % 4294967296 / 2 % 16 * 256)) (imm % 4294967296 / 32 % 64 * 33554432)) (imm % 4294967296 / 4096 % 2 * 2147483648))), .int .i64 0]) ∧ Below w.heap.size w w' := by
  go_enter Try.func26, Try.ntmps26
  go_wp2_with fail
  refine (RC.out _).mono ?_
  rintro e w1 ⟨rfl, hb⟩
  have hP : InsAt w1 w.heap.size o rd rs1 rs2 imm := kept hb (new_block w _)
  have HB1 : Aside0 (Below w.heap.size w w1) := ⟨((Below.refl _ _).alloc (Nat.le_refl _) _).trans (hb.mono (by simp))⟩
  have hl1 : w.heap.size < w1.heap.size := block_lt hP
  have HP := Aside0.mk hP
  have q0 := cell_of_block hP 0
  have q1 := cell_of_block hP 1
  have q2 := cell_of_block hP 2
  have q3 := cell_of_block hP 3
  have q4 := cell_of_block hP 4
  simp at q0 q1 q2 q3 q4
  clear hb hP
  go_wp2_with fail
  refine (FC.out _).mono ?_
  rintro e w2 ⟨rfl, hb2⟩
  have hP2 : InsAt w2 w.heap.size o rd rs1 rs2 imm := kept hb2 (kept_alloc HP.out)
  have hR2 : w2.heap[w1.heap.size]? = some (.cells #[.int .u8 o, .string nm, .int .i64 6, .int .u32 code, .int .u32 f3, .int .u32 extra] 79 (0, 0)) := kept hb2 (new_block w1 _)
  have hl2 : w.heap.size < w2.heap.size := block_lt hP2
  have hl3 : w1.heap.size < w2.heap.size := block_lt hR2
  have HB2 : Aside0 (Below w.heap.size w w2) := ⟨(HB1.out.alloc (Nat.le_of_lt hl1) _).trans (hb2.mono (by simp; omega))⟩
  clear q0 q1 q2 q3 q4
  have q0 := cell_of_block hP2 0
  have q1 := cell_of_block hP2 1
  have q2 := cell_of_block hP2 2
  have q3 := cell_of_block hP2 3
  have q4 := cell_of_block hP2 4
  have r2 := cell_of_block hR2 2
  have r3 := cell_of_block hR2 3
  have r4 := cell_of_block hR2 4
  have r5 := cell_of_block hR2 5
  simp at q0 q1 q2 q3 q4 r2 r3 r4 r5
  clear hb2 hP2 hR2 HP
  simp only []
  go_wp2_with (fail)
  go_quiet (fail)
  repeat' (first | (with_reducible refine ex_then ?_) | (with_reducible refine ex_norm ?_) | (with_reducible refine ex_eq ?_) | ((with_reducible refine ex_ne ?_ ?_); exact rfl) | (with_reducible refine ex_thenR ?_) | (with_reducible refine ex_inN ?_) | (with_reducible refine ex_inR ?_) | (go_at_call 53; (first | (with_reducible refine (bits_20_1 _ _ (by omega) (by omega)).mono ?_) | (with_reducible refine (bits_1_10 _ _ (by omega) (by omega)).mono ?_) | (with_reducible refine (bits_11_1 _ _ (by omega) (by omega)).mono ?_) | (with_reducible refine (bits_12_8 _ _ (by omega) (by omega)).mono ?_) | (with_reducible refine (bits_0_12 _ _ (by omega) (by omega)).mono ?_) | (with_reducible refine (bits_0_5 _ _ (by omega) (by omega)).mono ?_) | (with_reducible refine (bits_5_7 _ _ (by omega) (by omega)).mono ?_) | (with_reducible refine (bits_1_4 _ _ (by omega) (by omega)).mono ?_) | (with_reducible refine (bits_5_6 _ _ (by omega) (by omega)).mono ?_) | (with_reducible refine (bits_12_1 _ _ (by omega) (by omega)).mono ?_) ); rintro e w' ⟨rfl, rfl⟩; simp only []) | go_values | go_skip | go_guarded | go_step | go_upon)
  go_ret2
  exact ⟨by first | rfl | (simp; done), by repeat (first | exact HB2.out | apply below_drew | apply pw_below_drewN)⟩
set_option maxHeartbeats 8000000 in
set_option maxRecDepth 100000 in
theorem rput_7 (o rd rs1 rs2 imm : Int) (nm : ByteArray) (code f3 extra : Int)
    (b1 : 0 ≤ rd ∧ rd < 256) (b2 : 0 ≤ rs1 ∧ rs1 < 256) (b3 : 0 ≤ rs2 ∧ rs2 < 256) (b4 : -2147483648 ≤ imm ∧ imm < 2147483648)
    (RC : Aside0 (∀ w, Calls Try.prog 51 #[.int .u8 o] w fun e w' => e = .returned (.tuple #[.agg #[.int .u8 o, .string nm, .int .i64 7, .int .u32 code, .int .u32 f3, .int .u32 extra], .bool true]) ∧ Below w.heap.size w w'))
    (FC : Aside0 (∀ w, Calls Try.prog 52 #[.agg #[.int .u8 o, .string nm, .int .i64 7, .int .u32 code, .int .u32 f3, .int .u32 extra], .agg #[.int .u8 o, .int .u8 rd, .int .u8 rs1, .int .u8 rs2, .int .i32 imm]] w fun e w' => e = .returned (.bool true) ∧ Below w.heap.size w w')) (w : World) :
    Calls Try.prog 26 #[.agg #[.int .u8 o, .int .u8 rd, .int .u8 rs1, .int .u8 rs2, .int .i32 imm]] w fun e w' => e = .returned (.tuple #[.int .u32 ((Go.bits .or .u32 (Go.bits .or .u32 (Go.bits .or .u32 (Go.bits .or .u32 (Go.bits .or .u32 code (f3 * 4096 % 4294967296)) (rd * 128)) (rs1 * 32768)) (rs2 * 1048576)) (extra * 33554432 % 4294967296))), .int .i64 0]) ∧ Below w.heap.size w w' := by
  go_enter Try.func26, Try.ntmps26
  go_wp2_with fail
  refine (RC.out _).mono ?_
  rintro e w1 ⟨rfl, hb⟩
  have hP : InsAt w1 w.heap.size o rd rs1 rs2 imm := kept hb (new_block w _)
  have HB1 : Aside0 (Below w.heap.size w w1) := ⟨((Below.refl _ _).alloc (Nat.le_refl _) _).trans (hb.mono (by simp))⟩
  have hl1 : w.heap.size < w1.heap.size := block_lt hP
  have HP := Aside0.mk hP
  have q0 := cell_of_block hP 0
  have q1 := cell_of_block hP 1
  have q2 := cell_of_block hP 2
  have q3 := cell_of_block hP 3
  have q4 := cell_of_block hP 4
  simp at q0 q1 q2 q3 q4
  clear hb hP
  go_wp2_with fail
  refine (FC.out _).mono ?_
  rintro e w2 ⟨rfl, hb2⟩
  have hP2 : InsAt w2 w.heap.size o rd rs1 rs2 imm := kept hb2 (kept_alloc HP.out)
  have hR2 : w2.heap[w1.heap.size]? = some (.cells #[.int .u8 o, .string nm, .int .i64 7, .int .u32 code, .int .u32 f3, .int .u32 extra] 79 (0, 0)) := kept hb2 (new_block w1 _)
  have hl2 : w.heap.size < w2.heap.size := block_lt hP2
  have hl3 : w1.heap.size < w2.heap.size := block_lt hR2
  have HB2 : Aside0 (Below w.heap.size w w2) := ⟨(HB1.out.alloc (Nat.le_of_lt hl1) _).trans (hb2.mono (by simp; omega))⟩
  clear q0 q1 q2 q3 q4
  have q0 := cell_of_block hP2 0
  have q1 := cell_of_block hP2 1
  have q2 := cell_of_block hP2 2
  have q3 := cell_of_block hP2 3
  have q4 := cell_of_block hP2 4
  have r2 := cell_of_block hR2 2
  have r3 := cell_of_block hR2 3
  have r4 := cell_of_block hR2 4
  have r5 := cell_of_block hR2 5
  simp at q0 q1 q2 q3 q4 r2 r3 r4 r5
  clear hb2 hP2 hR2 HP
  simp only []
  go_wp2_with (fail)
  go_quiet (fail)
  repeat' (first | (with_reducible refine ex_then ?_) | (with_reducible refine ex_norm ?_) | (with_reducible refine ex_eq ?_) | ((with_reducible refine ex_ne ?_ ?_); exact rfl) | (with_reducible refine ex_thenR ?_) | (with_reducible refine ex_inN ?_) | (with_reducible refine ex_inR ?_) | (go_at_call 53; (first | (with_reducible refine (bits_20_1 _ _ (by omega) (by omega)).mono ?_) | (with_reducible refine (bits_1_10 _ _ (by omega) (by omega)).mono ?_) | (with_reducible refine (bits_11_1 _ _ (by omega) (by omega)).mono ?_) | (with_reducible refine (bits_12_8 _ _ (by omega) (by omega)).mono ?_) | (with_reducible refine (bits_0_12 _ _ (by omega) (by omega)).mono ?_) | (with_reducible refine (bits_0_5 _ _ (by omega) (by omega)).mono ?_) | (with_reducible refine (bits_5_7 _ _ (by omega) (by omega)).mono ?_) | (with_reducible refine (bits_1_4 _ _ (by omega) (by omega)).mono ?_) | (with_reducible refine (bits_5_6 _ _ (by omega) (by omega)).mono ?_) | (with_reducible refine (bits_12_1 _ _ (by omega) (by omega)).mono ?_) ); rintro e w' ⟨rfl, rfl⟩; simp only []) | go_values | go_skip | go_guarded | go_step | go_upon)
  go_ret2
  exact ⟨by first | rfl | (simp; done), by repeat (first | exact HB2.out | apply below_drew | apply pw_below_drewN)⟩
set_option maxHeartbeats 8000000 in
set_option maxRecDepth 100000 in
theorem rput_8 (o rd rs1 rs2 imm : Int) (nm : ByteArray) (code f3 extra : Int)
    (b1 : 0 ≤ rd ∧ rd < 256) (b2 : 0 ≤ rs1 ∧ rs1 < 256) (b3 : 0 ≤ rs2 ∧ rs2 < 256) (b4 : -2147483648 ≤ imm ∧ imm < 2147483648)
    (RC : Aside0 (∀ w, Calls Try.prog 51 #[.int .u8 o] w fun e w' => e = .returned (.tuple #[.agg #[.int .u8 o, .string nm, .int .i64 8, .int .u32 code, .int .u32 f3, .int .u32 extra], .bool true]) ∧ Below w.heap.size w w'))
    (FC : Aside0 (∀ w, Calls Try.prog 52 #[.agg #[.int .u8 o, .string nm, .int .i64 8, .int .u32 code, .int .u32 f3, .int .u32 extra], .agg #[.int .u8 o, .int .u8 rd, .int .u8 rs1, .int .u8 rs2, .int .i32 imm]] w fun e w' => e = .returned (.bool true) ∧ Below w.heap.size w w')) (w : World) :
    Calls Try.prog 26 #[.agg #[.int .u8 o, .int .u8 rd, .int .u8 rs1, .int .u8 rs2, .int .i32 imm]] w fun e w' => e = .returned (.tuple #[.int .u32 ((Go.bits .or .u32 (Go.bits .or .u32 (Go.bits .or .u32 (Go.bits .or .u32 code (f3 * 4096 % 4294967296)) (rd * 128)) (rs1 * 32768)) (extra * 1048576 % 4294967296))), .int .i64 0]) ∧ Below w.heap.size w w' := by
  go_enter Try.func26, Try.ntmps26
  go_wp2_with fail
  refine (RC.out _).mono ?_
  rintro e w1 ⟨rfl, hb⟩
  have hP : InsAt w1 w.heap.size o rd rs1 rs2 imm := kept hb (new_block w _)
  have HB1 : Aside0 (Below w.heap.size w w1) := ⟨((Below.refl _ _).alloc (Nat.le_refl _) _).trans (hb.mono (by simp))⟩
  have hl1 : w.heap.size < w1.heap.size := block_lt hP
  have HP := Aside0.mk hP
  have q0 := cell_of_block hP 0
  have q1 := cell_of_block hP 1
  have q2 := cell_of_block hP 2
  have q3 := cell_of_block hP 3
  have q4 := cell_of_block hP 4
  simp at q0 q1 q2 q3 q4
  clear hb hP
  go_wp2_with fail
  refine (FC.out _).mono ?_
  rintro e w2 ⟨rfl, hb2⟩
  have hP2 : InsAt w2 w.heap.size o rd rs1 rs2 imm := kept hb2 (kept_alloc HP.out)
  have hR2 : w2.heap[w1.heap.size]? = some (.cells #[.int .u8 o, .string nm, .int .i64 8, .int .u32 code, .int .u32 f3, .int .u32 extra] 79 (0, 0)) := kept hb2 (new_block w1 _)
  have hl2 : w.heap.size < w2.heap.size := block_lt hP2
  have hl3 : w1.heap.size < w2.heap.size := block_lt hR2
  have HB2 : Aside0 (Below w.heap.size w w2) := ⟨(HB1.out.alloc (Nat.le_of_lt hl1) _).trans (hb2.mono (by simp; omega))⟩
  clear q0 q1 q2 q3 q4
  have q0 := cell_of_block hP2 0
  have q1 := cell_of_block hP2 1
  have q2 := cell_of_block hP2 2
  have q3 := cell_of_block hP2 3
  have q4 := cell_of_block hP2 4
  have r2 := cell_of_block hR2 2
  have r3 := cell_of_block hR2 3
  have r4 := cell_of_block hR2 4
  have r5 := cell_of_block hR2 5
  simp at q0 q1 q2 q3 q4 r2 r3 r4 r5
  clear hb2 hP2 hR2 HP
  simp only []
  go_wp2_with (fail)
  go_quiet (fail)
  repeat' (first | (with_reducible refine ex_then ?_) | (with_reducible refine ex_norm ?_) | (with_reducible refine ex_eq ?_) | ((with_reducible refine ex_ne ?_ ?_); exact rfl) | (with_reducible refine ex_thenR ?_) | (with_reducible refine ex_inN ?_) | (with_reducible refine ex_inR ?_) | (go_at_call 53; (first | (with_reducible refine (bits_20_1 _ _ (by omega) (by omega)).mono ?_) | (with_reducible refine (bits_1_10 _ _ (by omega) (by omega)).mono ?_) | (with_reducible refine (bits_11_1 _ _ (by omega) (by omega)).mono ?_) | (with_reducible refine (bits_12_8 _ _ (by omega) (by omega)).mono ?_) | (with_reducible refine (bits_0_12 _ _ (by omega) (by omega)).mono ?_) | (with_reducible refine (bits_0_5 _ _ (by omega) (by omega)).mono ?_) | (with_reducible refine (bits_5_7 _ _ (by omega) (by omega)).mono ?_) | (with_reducible refine (bits_1_4 _ _ (by omega) (by omega)).mono ?_) | (with_reducible refine (bits_5_6 _ _ (by omega) (by omega)).mono ?_) | (with_reducible refine (bits_12_1 _ _ (by omega) (by omega)).mono ?_) ); rintro e w' ⟨rfl, rfl⟩; simp only []) | go_values | go_skip | go_guarded | go_step | go_upon)
  go_ret2
  exact ⟨by first | rfl | (simp; done), by repeat (first | exact HB2.out | apply below_drew | apply pw_below_drewN)⟩
set_option maxHeartbeats 8000000 in
set_option maxRecDepth 100000 in
theorem rput_9 (o rd rs1 rs2 imm : Int) (nm : ByteArray) (code f3 extra : Int)
    (b1 : 0 ≤ rd ∧ rd < 256) (b2 : 0 ≤ rs1 ∧ rs1 < 256) (b3 : 0 ≤ rs2 ∧ rs2 < 256) (b4 : -2147483648 ≤ imm ∧ imm < 2147483648)
    (RC : Aside0 (∀ w, Calls Try.prog 51 #[.int .u8 o] w fun e w' => e = .returned (.tuple #[.agg #[.int .u8 o, .string nm, .int .i64 9, .int .u32 code, .int .u32 f3, .int .u32 extra], .bool true]) ∧ Below w.heap.size w w'))
    (FC : Aside0 (∀ w, Calls Try.prog 52 #[.agg #[.int .u8 o, .string nm, .int .i64 9, .int .u32 code, .int .u32 f3, .int .u32 extra], .agg #[.int .u8 o, .int .u8 rd, .int .u8 rs1, .int .u8 rs2, .int .i32 imm]] w fun e w' => e = .returned (.bool true) ∧ Below w.heap.size w w')) (w : World) :
    Calls Try.prog 26 #[.agg #[.int .u8 o, .int .u8 rd, .int .u8 rs1, .int .u8 rs2, .int .i32 imm]] w fun e w' => e = .returned (.tuple #[.int .u32 ((Go.bits .or .u32 (Go.bits .or .u32 (Go.bits .or .u32 (Go.bits .or .u32 (Go.bits .or .u32 code (f3 * 4096 % 4294967296)) (rd * 128)) (rs1 * 32768)) (imm % 4294967296 * 1048576 % 4294967296)) (extra * 33554432 % 4294967296))), .int .i64 0]) ∧ Below w.heap.size w w' := by
  go_enter Try.func26, Try.ntmps26
  go_wp2_with fail
  refine (RC.out _).mono ?_
  rintro e w1 ⟨rfl, hb⟩
  have hP : InsAt w1 w.heap.size o rd rs1 rs2 imm := kept hb (new_block w _)
  have HB1 : Aside0 (Below w.heap.size w w1) := ⟨((Below.refl _ _).alloc (Nat.le_refl _) _).trans (hb.mono (by simp))⟩
  have hl1 : w.heap.size < w1.heap.size := block_lt hP
  have HP := Aside0.mk hP
  have q0 := cell_of_block hP 0
  have q1 := cell_of_block hP 1
  have q2 := cell_of_block hP 2
  have q3 := cell_of_block hP 3
  have q4 := cell_of_block hP 4
  simp at q0 q1 q2 q3 q4
  clear hb hP
  go_wp2_with fail
  refine (FC.out _).mono ?_
  rintro e w2 ⟨rfl, hb2⟩
  have hP2 : InsAt w2 w.heap.size o rd rs1 rs2 imm := kept hb2 (kept_alloc HP.out)
  have hR2 : w2.heap[w1.heap.size]? = some (.cells #[.int .u8 o, .string nm, .int .i64 9, .int .u32 code, .int .u32 f3, .int .u32 extra] 79 (0, 0)) := kept hb2 (new_block w1 _)
  have hl2 : w.heap.size < w2.heap.size := block_lt hP2
  have hl3 : w1.heap.size < w2.heap.size := block_lt hR2
  have HB2 : Aside0 (Below w.heap.size w w2) := ⟨(HB1.out.alloc (Nat.le_of_lt hl1) _).trans (hb2.mono (by simp; omega))⟩
  clear q0 q1 q2 q3 q4
  have q0 := cell_of_block hP2 0
  have q1 := cell_of_block hP2 1
  have q2 := cell_of_block hP2 2
  have q3 := cell_of_block hP2 3
  have q4 := cell_of_block hP2 4
  have r2 := cell_of_block hR2 2
  have r3 := cell_of_block hR2 3
  have r4 := cell_of_block hR2 4
  have r5 := cell_of_block hR2 5
  simp at q0 q1 q2 q3 q4 r2 r3 r4 r5
  clear hb2 hP2 hR2 HP
  simp only []
  go_wp2_with (fail)
  go_quiet (fail)
  repeat' (first | (with_reducible refine ex_then ?_) | (with_reducible refine ex_norm ?_) | (with_reducible refine ex_eq ?_) | ((with_reducible refine ex_ne ?_ ?_); exact rfl) | (with_reducible refine ex_thenR ?_) | (with_reducible refine ex_inN ?_) | (with_reducible refine ex_inR ?_) | (go_at_call 53; (first | (with_reducible refine (bits_20_1 _ _ (by omega) (by omega)).mono ?_) | (with_reducible refine (bits_1_10 _ _ (by omega) (by omega)).mono ?_) | (with_reducible refine (bits_11_1 _ _ (by omega) (by omega)).mono ?_) | (with_reducible refine (bits_12_8 _ _ (by omega) (by omega)).mono ?_) | (with_reducible refine (bits_0_12 _ _ (by omega) (by omega)).mono ?_) | (with_reducible refine (bits_0_5 _ _ (by omega) (by omega)).mono ?_) | (with_reducible refine (bits_5_7 _ _ (by omega) (by omega)).mono ?_) | (with_reducible refine (bits_1_4 _ _ (by omega) (by omega)).mono ?_) | (with_reducible refine (bits_5_6 _ _ (by omega) (by omega)).mono ?_) | (with_reducible refine (bits_12_1 _ _ (by omega) (by omega)).mono ?_) ); rintro e w' ⟨rfl, rfl⟩; simp only []) | go_values | go_skip | go_guarded | go_step | go_upon)
  go_ret2
  exact ⟨by first | rfl | (simp; done), by repeat (first | exact HB2.out | apply below_drew | apply pw_below_drewN)⟩
set_option maxHeartbeats 8000000 in
set_option maxRecDepth 100000 in
theorem rput_10 (o rd rs1 rs2 imm : Int) (nm : ByteArray) (code f3 extra : Int)
    (b1 : 0 ≤ rd ∧ rd < 256) (b2 : 0 ≤ rs1 ∧ rs1 < 256) (b3 : 0 ≤ rs2 ∧ rs2 < 256) (b4 : -2147483648 ≤ imm ∧ imm < 2147483648)
    (RC : Aside0 (∀ w, Calls Try.prog 51 #[.int .u8 o] w fun e w' => e = .returned (.tuple #[.agg #[.int .u8 o, .string nm, .int .i64 10, .int .u32 code, .int .u32 f3, .int .u32 extra], .bool true]) ∧ Below w.heap.size w w'))
    (FC : Aside0 (∀ w, Calls Try.prog 52 #[.agg #[.int .u8 o, .string nm, .int .i64 10, .int .u32 code, .int .u32 f3, .int .u32 extra], .agg #[.int .u8 o, .int .u8 rd, .int .u8 rs1, .int .u8 rs2, .int .i32 imm]] w fun e w' => e = .returned (.bool true) ∧ Below w.heap.size w w')) (w : World) :
    Calls Try.prog 26 #[.agg #[.int .u8 o, .int .u8 rd, .int .u8 rs1, .int .u8 rs2, .int .i32 imm]] w fun e w' => e = .returned (.tuple #[.int .u32 ((Go.bits .or .u32 code (f3 * 4096 % 4294967296))), .int .i64 0]) ∧ Below w.heap.size w w' := by
  go_enter Try.func26, Try.ntmps26
  go_wp2_with fail
  refine (RC.out _).mono ?_
  rintro e w1 ⟨rfl, hb⟩
  have hP : InsAt w1 w.heap.size o rd rs1 rs2 imm := kept hb (new_block w _)
  have HB1 : Aside0 (Below w.heap.size w w1) := ⟨((Below.refl _ _).alloc (Nat.le_refl _) _).trans (hb.mono (by simp))⟩
  have hl1 : w.heap.size < w1.heap.size := block_lt hP
  have HP := Aside0.mk hP
  have q0 := cell_of_block hP 0
  have q1 := cell_of_block hP 1
  have q2 := cell_of_block hP 2
  have q3 := cell_of_block hP 3
  have q4 := cell_of_block hP 4
  simp at q0 q1 q2 q3 q4
  clear hb hP
  go_wp2_with fail
  refine (FC.out _).mono ?_
  rintro e w2 ⟨rfl, hb2⟩
  have hP2 : InsAt w2 w.heap.size o rd rs1 rs2 imm := kept hb2 (kept_alloc HP.out)
  have hR2 : w2.heap[w1.heap.size]? = some (.cells #[.int .u8 o, .string nm, .int .i64 10, .int .u32 code, .int .u32 f3, .int .u32 extra] 79 (0, 0)) := kept hb2 (new_block w1 _)
  have hl2 : w.heap.size < w2.heap.size := block_lt hP2
  have hl3 : w1.heap.size < w2.heap.size := block_lt hR2
  have HB2 : Aside0 (Below w.heap.size w w2) := ⟨(HB1.out.alloc (Nat.le_of_lt hl1) _).trans (hb2.mono (by simp; omega))⟩
  clear q0 q1 q2 q3 q4
  have q0 := cell_of_block hP2 0
  have q1 := cell_of_block hP2 1
  have q2 := cell_of_block hP2 2
  have q3 := cell_of_block hP2 3
  have q4 := cell_of_block hP2 4
  have r2 := cell_of_block hR2 2
  have r3 := cell_of_block hR2 3
  have r4 := cell_of_block hR2 4
  have r5 := cell_of_block hR2 5
  simp at q0 q1 q2 q3 q4 r2 r3 r4 r5
  clear hb2 hP2 hR2 HP
  simp only []
  go_wp2_with (fail)
  go_quiet (fail)
  repeat' (first | (with_reducible refine ex_then ?_) | (with_reducible refine ex_norm ?_) | (with_reducible refine ex_eq ?_) | ((with_reducible refine ex_ne ?_ ?_); exact rfl) | (with_reducible refine ex_thenR ?_) | (with_reducible refine ex_inN ?_) | (with_reducible refine ex_inR ?_) | (go_at_call 53; (first | (with_reducible refine (bits_20_1 _ _ (by omega) (by omega)).mono ?_) | (with_reducible refine (bits_1_10 _ _ (by omega) (by omega)).mono ?_) | (with_reducible refine (bits_11_1 _ _ (by omega) (by omega)).mono ?_) | (with_reducible refine (bits_12_8 _ _ (by omega) (by omega)).mono ?_) | (with_reducible refine (bits_0_12 _ _ (by omega) (by omega)).mono ?_) | (with_reducible refine (bits_0_5 _ _ (by omega) (by omega)).mono ?_) | (with_reducible refine (bits_5_7 _ _ (by omega) (by omega)).mono ?_) | (with_reducible refine (bits_1_4 _ _ (by omega) (by omega)).mono ?_) | (with_reducible refine (bits_5_6 _ _ (by omega) (by omega)).mono ?_) | (with_reducible refine (bits_12_1 _ _ (by omega) (by omega)).mono ?_) ); rintro e w' ⟨rfl, rfl⟩; simp only []) | go_values | go_skip | go_guarded | go_step | go_upon)
  go_ret2
  exact ⟨by first | rfl | (simp; done), by repeat (first | exact HB2.out | apply below_drew | apply pw_below_drewN)⟩
def multR (rf : Nat) : Int := if rf = 8 then 1048576 else 33554432
theorem row_facts1 : ∀ j, j < 68 → pairs.getD j (0, 0) ∈ pairs ∧ opP (pairs.getD j (0, 0)) = (j : Int) + 1 ∧ nameP (pairs.getD j (0, 0)) = (row5 j).name ∧ 0 ≤ (row5 j).form ∧ (row5 j).form < 11 ∧
    formP (pairs.getD j (0, 0)) = fmR (row5 j).form.toNat := by decide +kernel
theorem row_facts2 : ∀ j, j < 68 → wordP (pairs.getD j (0, 0)) = (row5 j).code + (row5 j).f3 * 4096 + (row5 j).extra * multR (row5 j).form.toNat ∧ 0 ≤ (row5 j).code ∧ 0 ≤ (row5 j).f3 ∧ (row5 j).f3 < 8 ∧ 0 ≤ (row5 j).extra := by decide +kernel
theorem row_facts3 : ∀ j, j < 68 → ((row5 j).form ≠ 10 → (row5 j).code < 128) ∧ ((row5 j).form = 8 → (row5 j).extra < 4096) ∧ ((row5 j).form ≠ 8 → (row5 j).extra < 128) ∧ ((row5 j).form < 2 → (row5 j).f3 = 0) := by decide +kernel
theorem row_facts4 : ∀ j, j < 68 → ((row5 j).form = 10 → (row5 j).f3 = 0 ∧ (row5 j).code < 4294967296) ∧
    ((row5 j).form = 4 ∨ (row5 j).form = 7 ∨ (row5 j).form = 8 ∨ (row5 j).form = 9 ∨ (row5 j).extra = 0) ∧ ((row5 j).form = 9 → (j : Int) + 1 = 66) ∧ ((j : Int) + 1 = 66 → (row5 j).form = 9) := by decide +kernel
theorem slot_s7 (x r : Int) (h0 : 0 ≤ x) (h1 : x < 4294967296) (h2 : x / 128 % 32 = 0) (h3 : 0 ≤ r) (h4 : r < 32) : Go.bits .or .u32 x (r * 128) = x + r * 128 := or_slot x r 7 5 128 32 (by decide) (by decide) (by decide) h0 h1 h2 h3 h4
theorem slot_s15 (x r : Int) (h0 : 0 ≤ x) (h1 : x < 4294967296) (h2 : x / 32768 % 32 = 0) (h3 : 0 ≤ r) (h4 : r < 32) : Go.bits .or .u32 x (r * 32768) = x + r * 32768 := or_slot x r 15 5 32768 32 (by decide) (by decide) (by decide) h0 h1 h2 h3 h4
theorem slot_s20 (x r : Int) (h0 : 0 ≤ x) (h1 : x < 4294967296) (h2 : x / 1048576 % 32 = 0) (h3 : 0 ≤ r) (h4 : r < 32) : Go.bits .or .u32 x (r * 1048576) = x + r * 1048576 := or_slot x r 20 5 1048576 32 (by decide) (by decide) (by decide) h0 h1 h2 h3 h4
theorem slot_s25 (x r : Int) (h0 : 0 ≤ x) (h1 : x < 4294967296) (h2 : x / 33554432 % 128 = 0) (h3 : 0 ≤ r) (h4 : r < 128) : Go.bits .or .u32 x (r * 33554432) = x + r * 33554432 := or_slot x r 25 7 33554432 128 (by decide) (by decide) (by decide) h0 h1 h2 h3 h4
theorem slot_s31 (x r : Int) (h0 : 0 ≤ x) (h1 : x < 4294967296) (h2 : x / 2147483648 % 2 = 0) (h3 : 0 ≤ r) (h4 : r < 2) : Go.bits .or .u32 x (r * 2147483648) = x + r * 2147483648 := or_slot x r 31 1 2147483648 2 (by decide) (by decide) (by decide) h0 h1 h2 h3 h4
theorem slot_s21 (x r : Int) (h0 : 0 ≤ x) (h1 : x < 4294967296) (h2 : x / 2097152 % 1024 = 0) (h3 : 0 ≤ r) (h4 : r < 1024) : Go.bits .or .u32 x (r * 2097152) = x + r * 2097152 := or_slot x r 21 10 2097152 1024 (by decide) (by decide) (by decide) h0 h1 h2 h3 h4
theorem slot_t20 (x r : Int) (h0 : 0 ≤ x) (h1 : x < 4294967296) (h2 : x / 1048576 % 2 = 0) (h3 : 0 ≤ r) (h4 : r < 2) : Go.bits .or .u32 x (r * 1048576) = x + r * 1048576 := or_slot x r 20 1 1048576 2 (by decide) (by decide) (by decide) h0 h1 h2 h3 h4
theorem slot_s12 (x r : Int) (h0 : 0 ≤ x) (h1 : x < 4294967296) (h2 : x / 4096 % 256 = 0) (h3 : 0 ≤ r) (h4 : r < 256) : Go.bits .or .u32 x (r * 4096) = x + r * 4096 := or_slot x r 12 8 4096 256 (by decide) (by decide) (by decide) h0 h1 h2 h3 h4
theorem slot_u20 (x r : Int) (h0 : 0 ≤ x) (h1 : x < 4294967296) (h2 : x / 1048576 % 4096 = 0) (h3 : 0 ≤ r) (h4 : r < 4096) : Go.bits .or .u32 x (r * 1048576) = x + r * 1048576 := or_slot x r 20 12 1048576 4096 (by decide) (by decide) (by decide) h0 h1 h2 h3 h4
theorem slot_t7 (x r : Int) (h0 : 0 ≤ x) (h1 : x < 4294967296) (h2 : x / 128 % 2 = 0) (h3 : 0 ≤ r) (h4 : r < 2) : Go.bits .or .u32 x (r * 128) = x + r * 128 := or_slot x r 7 1 128 2 (by decide) (by decide) (by decide) h0 h1 h2 h3 h4
theorem slot_s8 (x r : Int) (h0 : 0 ≤ x) (h1 : x < 4294967296) (h2 : x / 256 % 16 = 0) (h3 : 0 ≤ r) (h4 : r < 16) : Go.bits .or .u32 x (r * 256) = x + r * 256 := or_slot x r 8 4 256 16 (by decide) (by decide) (by decide) h0 h1 h2 h3 h4
theorem slot_t25 (x r : Int) (h0 : 0 ≤ x) (h1 : x < 4294967296) (h2 : x / 33554432 % 64 = 0) (h3 : 0 ≤ r) (h4 : r < 64) : Go.bits .or .u32 x (r * 33554432) = x + r * 33554432 := or_slot x r 25 6 33554432 64 (by decide) (by decide) (by decide) h0 h1 h2 h3 h4
theorem orR_0 (o rd rs1 rs2 imm code f3 extra : Int) (c0 : 0 ≤ code) (c1 : code < 128) (g0 : 0 ≤ f3) (g1 : f3 < 8) (g2 : f3 = 0) (x0 : 0 ≤ extra) (x1 : extra = 0) (b1 : 0 ≤ rd) (b2 : 0 ≤ rs1) (b3 : 0 ≤ rs2) (b4 : -2147483648 ≤ imm ∧ imm < 2147483648) (hok : okR 0 rd rs1 rs2 (immR 0 imm) = true) :
    (Go.bits .or .u32 (Go.bits .or .u32 (Go.bits .or .u32 code (f3 * 4096 % 4294967296)) (rd * 128)) (imm % 4294967296)) = wordS (fmR 0) (code + f3 * 4096 + extra * multR 0) rd rs1 rs2 imm := by
  simp [okR, zerR, immR, fmR, immOk] at hok
  simp only [fmR, multR, wordS, hRd, hRs1, hRs2, putF, List.getD_cons_zero, List.getD_cons_succ, if_true, if_false, Bool.false_eq_true, Int.add_zero, reduceIte, Nat.reduceEqDiff]
  subst g2
  subst x1
  have hB : Go.bits .or .u32 code ((0 : Int) * 4096 % 4294967296) = code + (0 : Int) * 4096 := by
    rw [show (0 : Int) * 4096 % 4294967296 = (0 : Int) * 4096 from by omega]
    first
    | exact or_up _ _ 12 (by omega) (by omega) (by omega) (by omega) (by omega) (by omega)
    | exact or_dn _ _ 0 (by omega) (by omega) (by omega) (by omega) (by omega) (by omega)
  rw [hB]
  rw [slot_s7 _ _ (by omega) (by omega) (by omega) (by omega) (by omega)]
  rw [or_up _ _ 12 (by omega) (by omega) (by omega) (by omega) (by omega) (by omega)]
  omega
theorem orR_1 (o rd rs1 rs2 imm code f3 extra : Int) (c0 : 0 ≤ code) (c1 : code < 128) (g0 : 0 ≤ f3) (g1 : f3 < 8) (g2 : f3 = 0) (x0 : 0 ≤ extra) (x1 : extra = 0) (b1 : 0 ≤ rd) (b2 : 0 ≤ rs1) (b3 : 0 ≤ rs2) (b4 : -2147483648 ≤ imm ∧ imm < 2147483648) (hok : okR 1 rd rs1 rs2 (immR 1 imm) = true) :
    (Go.bits .or .u32 (Go.bits .or .u32 (Go.bits .or .u32 (Go.bits .or .u32 (Go.bits .or .u32 (Go.bits .or .u32 code (f3 * 4096 % 4294967296)) (rd * 128)) (imm % 4294967296 / 1048576 % 2 * 2147483648)) (imm % 4294967296 / 2 % 1024 * 2097152)) (imm % 4294967296 / 2048 % 2 * 1048576)) (imm % 4294967296 / 4096 % 256 * 4096)) = wordS (fmR 1) (code + f3 * 4096 + extra * multR 1) rd rs1 rs2 imm := by
  simp [okR, zerR, immR, fmR, immOk] at hok
  simp only [fmR, multR, wordS, hRd, hRs1, hRs2, putF, List.getD_cons_zero, List.getD_cons_succ, if_true, if_false, Bool.false_eq_true, Int.add_zero, reduceIte, Nat.reduceEqDiff]
  subst g2
  subst x1
  have hB : Go.bits .or .u32 code ((0 : Int) * 4096 % 4294967296) = code + (0 : Int) * 4096 := by
    rw [show (0 : Int) * 4096 % 4294967296 = (0 : Int) * 4096 from by omega]
    first
    | exact or_up _ _ 12 (by omega) (by omega) (by omega) (by omega) (by omega) (by omega)
    | exact or_dn _ _ 0 (by omega) (by omega) (by omega) (by omega) (by omega) (by omega)
  rw [hB]
  obtain ⟨a, b, c, d, e, t, ha, hb, hc, hd, he, q1, q2, q3, q4, q5⟩ := jdig (imm % 4294967296)
  rw [q1, q2, q3, q4]
  clear q1 q2 q3 q4 q5
  rw [slot_s7 _ _ (by omega) (by omega) (by omega) (by omega) (by omega)]
  rw [slot_s31 _ _ (by omega) (by omega) (by omega) (by omega) (by omega)]
  rw [slot_s21 _ _ (by omega) (by omega) (by omega) (by omega) (by omega)]
  rw [slot_t20 _ _ (by omega) (by omega) (by omega) (by omega) (by omega)]
  rw [slot_s12 _ _ (by omega) (by omega) (by omega) (by omega) (by omega)]
  omega
theorem orR_2 (o rd rs1 rs2 imm code f3 extra : Int) (c0 : 0 ≤ code) (c1 : code < 128) (g0 : 0 ≤ f3) (g1 : f3 < 8) (x0 : 0 ≤ extra) (x1 : extra = 0) (b1 : 0 ≤ rd) (b2 : 0 ≤ rs1) (b3 : 0 ≤ rs2) (b4 : -2147483648 ≤ imm ∧ imm < 2147483648) (hok : okR 2 rd rs1 rs2 (immR 2 imm) = true) :
    (Go.bits .or .u32 (Go.bits .or .u32 (Go.bits .or .u32 (Go.bits .or .u32 code (f3 * 4096 % 4294967296)) (rd * 128)) (rs1 * 32768)) (imm % 4096 * 1048576)) = wordS (fmR 2) (code + f3 * 4096 + extra * multR 2) rd rs1 rs2 imm := by
  simp [okR, zerR, immR, fmR, immOk] at hok
  simp only [fmR, multR, wordS, hRd, hRs1, hRs2, putF, List.getD_cons_zero, List.getD_cons_succ, if_true, if_false, Bool.false_eq_true, Int.add_zero, reduceIte, Nat.reduceEqDiff]
  subst x1
  have hB : Go.bits .or .u32 code (f3 * 4096 % 4294967296) = code + f3 * 4096 := by
    rw [show f3 * 4096 % 4294967296 = f3 * 4096 from by omega]
    first
    | exact or_up _ _ 12 (by omega) (by omega) (by omega) (by omega) (by omega) (by omega)
    | exact or_dn _ _ 0 (by omega) (by omega) (by omega) (by omega) (by omega) (by omega)
  rw [hB]
  obtain ⟨q, hq, hq0, hq1⟩ : ∃ q, imm % 4096 = q ∧ 0 ≤ q ∧ q < 4096 := ⟨_, rfl, by omega, by omega⟩
  have hq2 : imm % 4294967296 % 4096 = q := by omega
  rw [hq, hq2]
  clear hq hq2
  rw [slot_s7 _ _ (by omega) (by omega) (by omega) (by omega) (by omega)]
  rw [slot_s15 _ _ (by omega) (by omega) (by omega) (by omega) (by omega)]
  rw [slot_u20 _ _ (by omega) (by omega) (by omega) (by omega) (by omega)]
  omega
theorem orR_3 (o rd rs1 rs2 imm code f3 extra : Int) (c0 : 0 ≤ code) (c1 : code < 128) (g0 : 0 ≤ f3) (g1 : f3 < 8) (x0 : 0 ≤ extra) (x1 : extra = 0) (b1 : 0 ≤ rd) (b2 : 0 ≤ rs1) (b3 : 0 ≤ rs2) (b4 : -2147483648 ≤ imm ∧ imm < 2147483648) (hok : okR 3 rd rs1 rs2 (immR 3 imm) = true) :
    (Go.bits .or .u32 (Go.bits .or .u32 (Go.bits .or .u32 (Go.bits .or .u32 code (f3 * 4096 % 4294967296)) (rd * 128)) (rs1 * 32768)) (imm % 4096 * 1048576)) = wordS (fmR 3) (code + f3 * 4096 + extra * multR 3) rd rs1 rs2 imm := by
  simp [okR, zerR, immR, fmR, immOk] at hok
  simp only [fmR, multR, wordS, hRd, hRs1, hRs2, putF, List.getD_cons_zero, List.getD_cons_succ, if_true, if_false, Bool.false_eq_true, Int.add_zero, reduceIte, Nat.reduceEqDiff]
  subst x1
  have hB : Go.bits .or .u32 code (f3 * 4096 % 4294967296) = code + f3 * 4096 := by
    rw [show f3 * 4096 % 4294967296 = f3 * 4096 from by omega]
    first
    | exact or_up _ _ 12 (by omega) (by omega) (by omega) (by omega) (by omega) (by omega)
    | exact or_dn _ _ 0 (by omega) (by omega) (by omega) (by omega) (by omega) (by omega)
  rw [hB]
  obtain ⟨q, hq, hq0, hq1⟩ : ∃ q, imm % 4096 = q ∧ 0 ≤ q ∧ q < 4096 := ⟨_, rfl, by omega, by omega⟩
  have hq2 : imm % 4294967296 % 4096 = q := by omega
  rw [hq, hq2]
  clear hq hq2
  rw [slot_s7 _ _ (by omega) (by omega) (by omega) (by omega) (by omega)]
  rw [slot_s15 _ _ (by omega) (by omega) (by omega) (by omega) (by omega)]
  rw [slot_u20 _ _ (by omega) (by omega) (by omega) (by omega) (by omega)]
  omega
theorem orR_4 (o rd rs1 rs2 imm code f3 extra : Int) (c0 : 0 ≤ code) (c1 : code < 128) (g0 : 0 ≤ f3) (g1 : f3 < 8) (x0 : 0 ≤ extra) (x1 : extra < 128) (b1 : 0 ≤ rd) (b2 : 0 ≤ rs1) (b3 : 0 ≤ rs2) (b4 : -2147483648 ≤ imm ∧ imm < 2147483648) (hok : okR 4 rd rs1 rs2 (immR 4 imm) = true) :
    (Go.bits .or .u32 (Go.bits .or .u32 (Go.bits .or .u32 (Go.bits .or .u32 (Go.bits .or .u32 code (f3 * 4096 % 4294967296)) (rd * 128)) (rs1 * 32768)) (imm % 4294967296 * 1048576 % 4294967296)) (extra * 33554432 % 4294967296)) = wordS (fmR 4) (code + f3 * 4096 + extra * multR 4) rd rs1 rs2 imm := by
  simp [okR, zerR, immR, fmR, immOk] at hok
  simp only [fmR, multR, wordS, hRd, hRs1, hRs2, putF, List.getD_cons_zero, List.getD_cons_succ, if_true, if_false, Bool.false_eq_true, Int.add_zero, reduceIte, Nat.reduceEqDiff]
  have hB : Go.bits .or .u32 code (f3 * 4096 % 4294967296) = code + f3 * 4096 := by
    rw [show f3 * 4096 % 4294967296 = f3 * 4096 from by omega]
    first
    | exact or_up _ _ 12 (by omega) (by omega) (by omega) (by omega) (by omega) (by omega)
    | exact or_dn _ _ 0 (by omega) (by omega) (by omega) (by omega) (by omega) (by omega)
  rw [hB]
  rw [show extra * 33554432 % 4294967296 = extra * 33554432 from by omega]
  rw [show imm % 4294967296 * 1048576 % 4294967296 = imm * 1048576 from by omega]
  rw [slot_s7 _ _ (by omega) (by omega) (by omega) (by omega) (by omega)]
  rw [slot_s15 _ _ (by omega) (by omega) (by omega) (by omega) (by omega)]
  rw [slot_s20 _ _ (by omega) (by omega) (by omega) (by omega) (by omega)]
  rw [slot_s25 _ _ (by omega) (by omega) (by omega) (by omega) (by omega)]
  omega
theorem orR_5 (o rd rs1 rs2 imm code f3 extra : Int) (c0 : 0 ≤ code) (c1 : code < 128) (g0 : 0 ≤ f3) (g1 : f3 < 8) (x0 : 0 ≤ extra) (x1 : extra = 0) (b1 : 0 ≤ rd) (b2 : 0 ≤ rs1) (b3 : 0 ≤ rs2) (b4 : -2147483648 ≤ imm ∧ imm < 2147483648) (hok : okR 5 rd rs1 rs2 (immR 5 imm) = true) :
    (Go.bits .or .u32 (Go.bits .or .u32 (Go.bits .or .u32 (Go.bits .or .u32 (Go.bits .or .u32 code (f3 * 4096 % 4294967296)) (rs1 * 32768)) (rs2 * 1048576)) (imm % 32 * 128)) (imm % 4294967296 / 32 % 128 * 33554432)) = wordS (fmR 5) (code + f3 * 4096 + extra * multR 5) rd rs1 rs2 imm := by
  simp [okR, zerR, immR, fmR, immOk] at hok
  simp only [fmR, multR, wordS, hRd, hRs1, hRs2, putF, List.getD_cons_zero, List.getD_cons_succ, if_true, if_false, Bool.false_eq_true, Int.add_zero, reduceIte, Nat.reduceEqDiff]
  subst x1
  have hB : Go.bits .or .u32 code (f3 * 4096 % 4294967296) = code + f3 * 4096 := by
    rw [show f3 * 4096 % 4294967296 = f3 * 4096 from by omega]
    first
    | exact or_up _ _ 12 (by omega) (by omega) (by omega) (by omega) (by omega) (by omega)
    | exact or_dn _ _ 0 (by omega) (by omega) (by omega) (by omega) (by omega) (by omega)
  rw [hB]
  obtain ⟨p, hp, hp0, hp1⟩ : ∃ p, imm % 4294967296 / 32 % 128 = p ∧ 0 ≤ p ∧ p < 128 := ⟨_, rfl, by omega, by omega⟩
  obtain ⟨q, hq, hq0, hq1⟩ : ∃ q, imm % 32 = q ∧ 0 ≤ q ∧ q < 32 := ⟨_, rfl, by omega, by omega⟩
  have hq2 : imm % 4294967296 % 32 = q := by omega
  rw [hp, hq, hq2]
  clear hp hq hq2
  rw [slot_s15 _ _ (by omega) (by omega) (by omega) (by omega) (by omega)]
  rw [slot_s20 _ _ (by omega) (by omega) (by omega) (by omega) (by omega)]
  rw [slot_s7 _ _ (by omega) (by omega) (by omega) (by omega) (by omega)]
  rw [slot_s25 _ _ (by omega) (by omega) (by omega) (by omega) (by omega)]
  omega
theorem orR_6 (o rd rs1 rs2 imm code f3 extra : Int) (c0 : 0 ≤ code) (c1 : code < 128) (g0 : 0 ≤ f3) (g1 : f3 < 8) (x0 : 0 ≤ extra) (x1 : extra = 0) (b1 : 0 ≤ rd) (b2 : 0 ≤ rs1) (b3 : 0 ≤ rs2) (b4 : -2147483648 ≤ imm ∧ imm < 2147483648) (hok : okR 6 rd rs1 rs2 (immR 6 imm) = true) :
    (Go.bits .or .u32 (Go.bits .or .u32 (Go.bits .or .u32 (Go.bits .or .u32 (Go.bits .or .u32 (Go.bits .or .u32 (Go.bits .or .u32 code (f3 * 4096 % 4294967296)) (rs1 * 32768)) (rs2 * 1048576)) (imm % 4294967296 / 2048 % 2 * 128)) (imm % 4294967296 / 2 % 16 * 256)) (imm % 4294967296 / 32 % 64 * 33554432)) (imm % 4294967296 / 4096 % 2 * 2147483648)) = wordS (fmR 6) (code + f3 * 4096 + extra * multR 6) rd rs1 rs2 imm := by
  simp [okR, zerR, immR, fmR, immOk] at hok
  simp only [fmR, multR, wordS, hRd, hRs1, hRs2, putF, List.getD_cons_zero, List.getD_cons_succ, if_true, if_false, Bool.false_eq_true, Int.add_zero, reduceIte, Nat.reduceEqDiff]
  subst x1
  have hB : Go.bits .or .u32 code (f3 * 4096 % 4294967296) = code + f3 * 4096 := by
    rw [show f3 * 4096 % 4294967296 = f3 * 4096 from by omega]
    first
    | exact or_up _ _ 12 (by omega) (by omega) (by omega) (by omega) (by omega) (by omega)
    | exact or_dn _ _ 0 (by omega) (by omega) (by omega) (by omega) (by omega) (by omega)
  rw [hB]
  obtain ⟨a, b, c, d, e, t, ha, hb, hc, hd, he, q1, q2, q3, q4, q5⟩ := bdig (imm % 4294967296)
  rw [q1, q2, q3, q4]
  clear q1 q2 q3 q4 q5
  rw [slot_s15 _ _ (by omega) (by omega) (by omega) (by omega) (by omega)]
  rw [slot_s20 _ _ (by omega) (by omega) (by omega) (by omega) (by omega)]
  rw [slot_t7 _ _ (by omega) (by omega) (by omega) (by omega) (by omega)]
  rw [slot_s8 _ _ (by omega) (by omega) (by omega) (by omega) (by omega)]
  rw [slot_t25 _ _ (by omega) (by omega) (by omega) (by omega) (by omega)]
  rw [slot_s31 _ _ (by omega) (by omega) (by omega) (by omega) (by omega)]
  omega
theorem orR_7 (o rd rs1 rs2 imm code f3 extra : Int) (c0 : 0 ≤ code) (c1 : code < 128) (g0 : 0 ≤ f3) (g1 : f3 < 8) (x0 : 0 ≤ extra) (x1 : extra < 128) (b1 : 0 ≤ rd) (b2 : 0 ≤ rs1) (b3 : 0 ≤ rs2) (b4 : -2147483648 ≤ imm ∧ imm < 2147483648) (hok : okR 7 rd rs1 rs2 (immR 7 imm) = true) :
    (Go.bits .or .u32 (Go.bits .or .u32 (Go.bits .or .u32 (Go.bits .or .u32 (Go.bits .or .u32 code (f3 * 4096 % 4294967296)) (rd * 128)) (rs1 * 32768)) (rs2 * 1048576)) (extra * 33554432 % 4294967296)) = wordS (fmR 7) (code + f3 * 4096 + extra * multR 7) rd rs1 rs2 imm := by
  simp [okR, zerR, immR, fmR, immOk] at hok
  simp only [fmR, multR, wordS, hRd, hRs1, hRs2, putF, List.getD_cons_zero, List.getD_cons_succ, if_true, if_false, Bool.false_eq_true, Int.add_zero, reduceIte, Nat.reduceEqDiff]
  have hB : Go.bits .or .u32 code (f3 * 4096 % 4294967296) = code + f3 * 4096 := by
    rw [show f3 * 4096 % 4294967296 = f3 * 4096 from by omega]
    first
    | exact or_up _ _ 12 (by omega) (by omega) (by omega) (by omega) (by omega) (by omega)
    | exact or_dn _ _ 0 (by omega) (by omega) (by omega) (by omega) (by omega) (by omega)
  rw [hB]
  rw [show extra * 33554432 % 4294967296 = extra * 33554432 from by omega]
  rw [slot_s7 _ _ (by omega) (by omega) (by omega) (by omega) (by omega)]
  rw [slot_s15 _ _ (by omega) (by omega) (by omega) (by omega) (by omega)]
  rw [slot_s20 _ _ (by omega) (by omega) (by omega) (by omega) (by omega)]
  rw [slot_s25 _ _ (by omega) (by omega) (by omega) (by omega) (by omega)]
  omega
theorem orR_8 (o rd rs1 rs2 imm code f3 extra : Int) (c0 : 0 ≤ code) (c1 : code < 128) (g0 : 0 ≤ f3) (g1 : f3 < 8) (x0 : 0 ≤ extra) (x1 : extra < 4096) (b1 : 0 ≤ rd) (b2 : 0 ≤ rs1) (b3 : 0 ≤ rs2) (b4 : -2147483648 ≤ imm ∧ imm < 2147483648) (hok : okR 8 rd rs1 rs2 (immR 8 imm) = true) :
    (Go.bits .or .u32 (Go.bits .or .u32 (Go.bits .or .u32 (Go.bits .or .u32 code (f3 * 4096 % 4294967296)) (rd * 128)) (rs1 * 32768)) (extra * 1048576 % 4294967296)) = wordS (fmR 8) (code + f3 * 4096 + extra * multR 8) rd rs1 rs2 imm := by
  simp [okR, zerR, immR, fmR, immOk] at hok
  simp only [fmR, multR, wordS, hRd, hRs1, hRs2, putF, List.getD_cons_zero, List.getD_cons_succ, if_true, if_false, Bool.false_eq_true, Int.add_zero, reduceIte, Nat.reduceEqDiff]
  have hB : Go.bits .or .u32 code (f3 * 4096 % 4294967296) = code + f3 * 4096 := by
    rw [show f3 * 4096 % 4294967296 = f3 * 4096 from by omega]
    first
    | exact or_up _ _ 12 (by omega) (by omega) (by omega) (by omega) (by omega) (by omega)
    | exact or_dn _ _ 0 (by omega) (by omega) (by omega) (by omega) (by omega) (by omega)
  rw [hB]
  rw [show extra * 1048576 % 4294967296 = extra * 1048576 from by omega]
  rw [slot_s7 _ _ (by omega) (by omega) (by omega) (by omega) (by omega)]
  rw [slot_s15 _ _ (by omega) (by omega) (by omega) (by omega) (by omega)]
  rw [slot_u20 _ _ (by omega) (by omega) (by omega) (by omega) (by omega)]
  omega
theorem orR_9 (o rd rs1 rs2 imm code f3 extra : Int) (c0 : 0 ≤ code) (c1 : code < 128) (g0 : 0 ≤ f3) (g1 : f3 < 8) (x0 : 0 ≤ extra) (x1 : extra < 128) (b1 : 0 ≤ rd) (b2 : 0 ≤ rs1) (b3 : 0 ≤ rs2) (b4 : -2147483648 ≤ imm ∧ imm < 2147483648) (hok : okR 9 rd rs1 rs2 (immR 9 imm) = true) :
    (Go.bits .or .u32 (Go.bits .or .u32 (Go.bits .or .u32 (Go.bits .or .u32 (Go.bits .or .u32 code (f3 * 4096 % 4294967296)) (rd * 128)) (rs1 * 32768)) (imm % 4294967296 * 1048576 % 4294967296)) (extra * 33554432 % 4294967296)) = wordS (fmR 9) (code + f3 * 4096 + extra * multR 9) rd rs1 rs2 imm := by
  simp [okR, zerR, immR, fmR, immOk] at hok
  simp only [fmR, multR, wordS, hRd, hRs1, hRs2, putF, List.getD_cons_zero, List.getD_cons_succ, if_true, if_false, Bool.false_eq_true, Int.add_zero, reduceIte, Nat.reduceEqDiff]
  have hB : Go.bits .or .u32 code (f3 * 4096 % 4294967296) = code + f3 * 4096 := by
    rw [show f3 * 4096 % 4294967296 = f3 * 4096 from by omega]
    first
    | exact or_up _ _ 12 (by omega) (by omega) (by omega) (by omega) (by omega) (by omega)
    | exact or_dn _ _ 0 (by omega) (by omega) (by omega) (by omega) (by omega) (by omega)
  rw [hB]
  rw [show extra * 33554432 % 4294967296 = extra * 33554432 from by omega]
  rw [show imm % 4294967296 * 1048576 % 4294967296 = imm * 1048576 from by omega]
  rw [slot_s7 _ _ (by omega) (by omega) (by omega) (by omega) (by omega)]
  rw [slot_s15 _ _ (by omega) (by omega) (by omega) (by omega) (by omega)]
  rw [slot_s20 _ _ (by omega) (by omega) (by omega) (by omega) (by omega)]
  rw [slot_s25 _ _ (by omega) (by omega) (by omega) (by omega) (by omega)]
  omega
theorem orR_10 (o rd rs1 rs2 imm code f3 extra : Int) (c0 : 0 ≤ code) (c1 : code < 4294967296) (g0 : 0 ≤ f3) (g1 : f3 < 8) (g2 : f3 = 0) (x0 : 0 ≤ extra) (x1 : extra = 0) (b1 : 0 ≤ rd) (b2 : 0 ≤ rs1) (b3 : 0 ≤ rs2) (b4 : -2147483648 ≤ imm ∧ imm < 2147483648) (hok : okR 10 rd rs1 rs2 (immR 10 imm) = true) :
    (Go.bits .or .u32 code (f3 * 4096 % 4294967296)) = wordS (fmR 10) (code + f3 * 4096 + extra * multR 10) rd rs1 rs2 imm := by
  simp [okR, zerR, immR, fmR, immOk] at hok
  simp only [fmR, multR, wordS, hRd, hRs1, hRs2, putF, List.getD_cons_zero, List.getD_cons_succ, if_true, if_false, Bool.false_eq_true, Int.add_zero, reduceIte, Nat.reduceEqDiff]
  subst g2
  subst x1
  have hB : Go.bits .or .u32 code ((0 : Int) * 4096 % 4294967296) = code + (0 : Int) * 4096 := by
    rw [show (0 : Int) * 4096 % 4294967296 = (0 : Int) * 4096 from by omega]
    first
    | exact or_up _ _ 12 (by omega) (by omega) (by omega) (by omega) (by omega) (by omega)
    | exact or_dn _ _ 0 (by omega) (by omega) (by omega) (by omega) (by omega) (by omega)
  rw [hB]
  first | done | omega
theorem ok_same (rf : Nat) (hrf : rf < 11) (o rd rs1 rs2 imm : Int) (b1 : 0 ≤ rd) (b2 : 0 ≤ rs1) (b3 : 0 ≤ rs2) (h66 : rf = 9 ↔ o = 66) : okR rf rd rs1 rs2 (immR rf imm) = okS (fmR rf) o rd rs1 rs2 imm := by
  have c : rf = 0 ∨ rf = 1 ∨ rf = 2 ∨ rf = 3 ∨ rf = 4 ∨ rf = 5 ∨ rf = 6 ∨ rf = 7 ∨ rf = 8 ∨ rf = 9 ∨ rf = 10 := by omega
  rw [Bool.eq_iff_iff]
  rcases c with g | g | g | g | g | g | g | g | g | g | g <;> subst g <;> simp [okR, zerR, immR, fmR, immOk, okS, regOk, hRd, hRs1, hRs2, specB] at h66 ⊢ <;> omega
theorem rput_calls (o rd rs1 rs2 imm : Int) (b0 : 0 ≤ o ∧ o < 256) (b1 : 0 ≤ rd ∧ rd < 256) (b2 : 0 ≤ rs1 ∧ rs1 < 256) (b3 : 0 ≤ rs2 ∧ rs2 < 256) (b4 : -2147483648 ≤ imm ∧ imm < 2147483648) (w : World) :
    Calls Try.prog 26 #[.agg #[.int .u8 o, .int .u8 rd, .int .u8 rs1, .int .u8 rs2, .int .i32 imm]] w fun e w' => e = .returned (putV (putS o rd rs1 rs2 imm)) ∧ Below w.heap.size w w' := by
  by_cases ho : o = 0 ∨ 69 ≤ o
  · rw [putS_no ho]
    exact rput_none o rd rs1 rs2 imm ⟨fun w => row_no o b0.1 b0.2 ho w⟩ w
  · obtain ⟨j, hj, rfl⟩ : ∃ j : Nat, j < 68 ∧ o = (j : Int) + 1 := ⟨(o - 1).toNat, by omega, by omega⟩
    obtain ⟨hp, hop, hnm, f0, f1, hfm⟩ := row_facts1 j hj
    obtain ⟨hwd, c0, g0, g1, x0⟩ := row_facts2 j hj
    obtain ⟨c1, x1, x2, g2⟩ := row_facts3 j hj
    obtain ⟨g3, x3', h66a, h66b⟩ := row_facts4 j hj
    have RC := Aside0.mk (row_yes j hj)
    have e := putS_of hp rd rs1 rs2 imm
    rw [hop, hfm, hwd] at e
    generalize (row5 j).name = nm at *
    generalize (row5 j).code = code at *
    generalize (row5 j).f3 = f3 at *
    generalize (row5 j).extra = extra at *
    generalize (row5 j).form = form at *
    have x3 : form ≠ 4 → form ≠ 7 → form ≠ 8 → form ≠ 9 → extra = 0 := by omega
    have hc : form = 0 ∨ form = 1 ∨ form = 2 ∨ form = 3 ∨ form = 4 ∨ form = 5 ∨ form = 6 ∨ form = 7 ∨ form = 8 ∨ form = 9 ∨ form = 10 := by omega
    have fin : ∀ rf : Nat, form = rf → rf < 11 → (okR rf rd rs1 rs2 (immR rf imm) = false → Calls Try.prog 26 #[.agg #[.int .u8 ((j : Int) + 1), .int .u8 rd, .int .u8 rs1, .int .u8 rs2, .int .i32 imm]] w fun e w' => e = .returned (putV (0, 2)) ∧ Below w.heap.size w w') →
        (okR rf rd rs1 rs2 (immR rf imm) = true → Calls Try.prog 26 #[.agg #[.int .u8 ((j : Int) + 1), .int .u8 rd, .int .u8 rs1, .int .u8 rs2, .int .i32 imm]] w fun e w' => e = .returned (putV (wordS (fmR rf) (code + f3 * 4096 + extra * multR rf) rd rs1 rs2 imm, 0)) ∧ Below w.heap.size w w') →
        Calls Try.prog 26 #[.agg #[.int .u8 ((j : Int) + 1), .int .u8 rd, .int .u8 rs1, .int .u8 rs2, .int .i32 imm]] w fun e w' => e = .returned (putV (putS ((j : Int) + 1) rd rs1 rs2 imm)) ∧ Below w.heap.size w w' := by
      intro rf hrf hlt hbad hgood
      have hs := ok_same rf hlt ((j : Int) + 1) rd rs1 rs2 imm b1.1 b2.1 b3.1 (by omega)
      have ht : form.toNat = rf := by omega
      rw [ht] at e
      cases h : okR rf rd rs1 rs2 (immR rf imm) with
      | false => rw [e, ← hs, h]; exact hbad h
      | true => rw [e, ← hs, h]; exact hgood h
    rcases hc with g | g | g | g | g | g | g | g | g | g | g <;> subst g
    · refine fin 0 rfl (by decide) (fun h => ?_) (fun h => ?_)
      · exact rput_bad 0 _ rd rs1 rs2 imm nm code f3 extra b1 b2 b3 b4 RC ⟨fun w => by rw [← h]; exact fields_R_0 _ nm code f3 extra _ rd rs1 rs2 imm _ rfl w⟩ w
      · rw [← orR_0 ((j : Int) + 1) rd rs1 rs2 imm code f3 extra c0 (c1 (by decide)) g0 g1 (g2 (by decide)) x0 (x3 (by decide) (by decide) (by decide) (by decide)) b1.1 b2.1 b3.1 b4 h]
        exact rput_0 _ rd rs1 rs2 imm nm code f3 extra b1 b2 b3 b4 RC ⟨fun w => by rw [← h]; exact fields_R_0 _ nm code f3 extra _ rd rs1 rs2 imm _ rfl w⟩ w
    · refine fin 1 rfl (by decide) (fun h => ?_) (fun h => ?_)
      · exact rput_bad 1 _ rd rs1 rs2 imm nm code f3 extra b1 b2 b3 b4 RC ⟨fun w => by rw [← h]; exact fields_R_1 _ nm code f3 extra _ rd rs1 rs2 imm _ rfl w⟩ w
      · rw [← orR_1 ((j : Int) + 1) rd rs1 rs2 imm code f3 extra c0 (c1 (by decide)) g0 g1 (g2 (by decide)) x0 (x3 (by decide) (by decide) (by decide) (by decide)) b1.1 b2.1 b3.1 b4 h]
        exact rput_1 _ rd rs1 rs2 imm nm code f3 extra b1 b2 b3 b4 RC ⟨fun w => by rw [← h]; exact fields_R_1 _ nm code f3 extra _ rd rs1 rs2 imm _ rfl w⟩ w
    · refine fin 2 rfl (by decide) (fun h => ?_) (fun h => ?_)
      · exact rput_bad 2 _ rd rs1 rs2 imm nm code f3 extra b1 b2 b3 b4 RC ⟨fun w => by rw [← h]; exact fields_R_2 _ nm code f3 extra _ rd rs1 rs2 imm _ rfl w⟩ w
      · rw [← orR_2 ((j : Int) + 1) rd rs1 rs2 imm code f3 extra c0 (c1 (by decide)) g0 g1 x0 (x3 (by decide) (by decide) (by decide) (by decide)) b1.1 b2.1 b3.1 b4 h]
        exact rput_2 _ rd rs1 rs2 imm nm code f3 extra b1 b2 b3 b4 RC ⟨fun w => by rw [← h]; exact fields_R_2 _ nm code f3 extra _ rd rs1 rs2 imm _ rfl w⟩ w
    · refine fin 3 rfl (by decide) (fun h => ?_) (fun h => ?_)
      · exact rput_bad 3 _ rd rs1 rs2 imm nm code f3 extra b1 b2 b3 b4 RC ⟨fun w => by rw [← h]; exact fields_R_3 _ nm code f3 extra _ rd rs1 rs2 imm _ rfl w⟩ w
      · rw [← orR_3 ((j : Int) + 1) rd rs1 rs2 imm code f3 extra c0 (c1 (by decide)) g0 g1 x0 (x3 (by decide) (by decide) (by decide) (by decide)) b1.1 b2.1 b3.1 b4 h]
        exact rput_3 _ rd rs1 rs2 imm nm code f3 extra b1 b2 b3 b4 RC ⟨fun w => by rw [← h]; exact fields_R_3 _ nm code f3 extra _ rd rs1 rs2 imm _ rfl w⟩ w
    · refine fin 4 rfl (by decide) (fun h => ?_) (fun h => ?_)
      · exact rput_bad 4 _ rd rs1 rs2 imm nm code f3 extra b1 b2 b3 b4 RC ⟨fun w => by rw [← h]; exact fields_R_4 _ nm code f3 extra _ rd rs1 rs2 imm _ rfl w⟩ w
      · rw [← orR_4 ((j : Int) + 1) rd rs1 rs2 imm code f3 extra c0 (c1 (by decide)) g0 g1 x0 (x2 (by decide)) b1.1 b2.1 b3.1 b4 h]
        exact rput_4 _ rd rs1 rs2 imm nm code f3 extra b1 b2 b3 b4 RC ⟨fun w => by rw [← h]; exact fields_R_4 _ nm code f3 extra _ rd rs1 rs2 imm _ rfl w⟩ w
    · refine fin 5 rfl (by decide) (fun h => ?_) (fun h => ?_)
      · exact rput_bad 5 _ rd rs1 rs2 imm nm code f3 extra b1 b2 b3 b4 RC ⟨fun w => by rw [← h]; exact fields_R_5 _ nm code f3 extra _ rd rs1 rs2 imm _ rfl w⟩ w
      · rw [← orR_5 ((j : Int) + 1) rd rs1 rs2 imm code f3 extra c0 (c1 (by decide)) g0 g1 x0 (x3 (by decide) (by decide) (by decide) (by decide)) b1.1 b2.1 b3.1 b4 h]
        exact rput_5 _ rd rs1 rs2 imm nm code f3 extra b1 b2 b3 b4 RC ⟨fun w => by rw [← h]; exact fields_R_5 _ nm code f3 extra _ rd rs1 rs2 imm _ rfl w⟩ w
    · refine fin 6 rfl (by decide) (fun h => ?_) (fun h => ?_)
      · exact rput_bad 6 _ rd rs1 rs2 imm nm code f3 extra b1 b2 b3 b4 RC ⟨fun w => by rw [← h]; exact fields_R_6 _ nm code f3 extra _ rd rs1 rs2 imm _ rfl w⟩ w
      · rw [← orR_6 ((j : Int) + 1) rd rs1 rs2 imm code f3 extra c0 (c1 (by decide)) g0 g1 x0 (x3 (by decide) (by decide) (by decide) (by decide)) b1.1 b2.1 b3.1 b4 h]
        exact rput_6 _ rd rs1 rs2 imm nm code f3 extra b1 b2 b3 b4 RC ⟨fun w => by rw [← h]; exact fields_R_6 _ nm code f3 extra _ rd rs1 rs2 imm _ rfl w⟩ w
    · refine fin 7 rfl (by decide) (fun h => ?_) (fun h => ?_)
      · exact rput_bad 7 _ rd rs1 rs2 imm nm code f3 extra b1 b2 b3 b4 RC ⟨fun w => by rw [← h]; exact fields_R_7 _ nm code f3 extra _ rd rs1 rs2 imm _ rfl w⟩ w
      · rw [← orR_7 ((j : Int) + 1) rd rs1 rs2 imm code f3 extra c0 (c1 (by decide)) g0 g1 x0 (x2 (by decide)) b1.1 b2.1 b3.1 b4 h]
        exact rput_7 _ rd rs1 rs2 imm nm code f3 extra b1 b2 b3 b4 RC ⟨fun w => by rw [← h]; exact fields_R_7 _ nm code f3 extra _ rd rs1 rs2 imm _ rfl w⟩ w
    · refine fin 8 rfl (by decide) (fun h => ?_) (fun h => ?_)
      · exact rput_bad 8 _ rd rs1 rs2 imm nm code f3 extra b1 b2 b3 b4 RC ⟨fun w => by rw [← h]; exact fields_R_8 _ nm code f3 extra _ rd rs1 rs2 imm _ rfl w⟩ w
      · rw [← orR_8 ((j : Int) + 1) rd rs1 rs2 imm code f3 extra c0 (c1 (by decide)) g0 g1 x0 (x1 rfl) b1.1 b2.1 b3.1 b4 h]
        exact rput_8 _ rd rs1 rs2 imm nm code f3 extra b1 b2 b3 b4 RC ⟨fun w => by rw [← h]; exact fields_R_8 _ nm code f3 extra _ rd rs1 rs2 imm _ rfl w⟩ w
    · refine fin 9 rfl (by decide) (fun h => ?_) (fun h => ?_)
      · exact rput_bad 9 _ rd rs1 rs2 imm nm code f3 extra b1 b2 b3 b4 RC ⟨fun w => by rw [← h]; exact fields_R_9 _ nm code f3 extra _ rd rs1 rs2 imm _ rfl w⟩ w
      · rw [← orR_9 ((j : Int) + 1) rd rs1 rs2 imm code f3 extra c0 (c1 (by decide)) g0 g1 x0 (x2 (by decide)) b1.1 b2.1 b3.1 b4 h]
        exact rput_9 _ rd rs1 rs2 imm nm code f3 extra b1 b2 b3 b4 RC ⟨fun w => by rw [← h]; exact fields_R_9 _ nm code f3 extra _ rd rs1 rs2 imm _ rfl w⟩ w
    · refine fin 10 rfl (by decide) (fun h => ?_) (fun h => ?_)
      · exact rput_bad 10 _ rd rs1 rs2 imm nm code f3 extra b1 b2 b3 b4 RC ⟨fun w => by rw [← h]; exact fields_R_10 _ nm code f3 extra _ rd rs1 rs2 imm _ rfl w⟩ w
      · rw [← orR_10 ((j : Int) + 1) rd rs1 rs2 imm code f3 extra c0 (g3 rfl).2 g0 g1 (g3 rfl).1 x0 (x3 (by decide) (by decide) (by decide) (by decide)) b1.1 b2.1 b3.1 b4 h]
        exact rput_10 _ rd rs1 rs2 imm nm code f3 extra b1 b2 b3 b4 RC ⟨fun w => by rw [← h]; exact fields_R_10 _ nm code f3 extra _ rd rs1 rs2 imm _ rfl w⟩ w
end Go.Proofs.Ythkbjoglhfclmaa.Ins
