/- Contracts of reloc.Field and ref16.Field; the laws RelocFields and RelocField, walked. No condition beyond the kinds' bounds. -/
import Derived.Test.YthkbjoglhfclmaaQFldB
import Derived.Test.YthkbjoglhfclmaaQInsR3
import Derived.Test.YthkbjoglhfclmaaQRelA
namespace Go.Proofs.Ythkbjoglhfclmaa.Fld
open Go.RowKit Go.Proofs.YthkbjoglhfclmaaW.PrintWords Go.Proofs.YthkbjoglhfclmaaW.PrintLast Go.Proofs.Ythkbjoglhfclmaa.Alu Go.Proofs.Ythkbjoglhfclmaa.InsP Go.Proofs.Ythkbjoglhfclmaa.Ins
set_option linter.unusedVariables false
set_option linter.unusedSimpArgs false
/-- A word whose field becomes something, and the error. -/
def fieldS (k x v : Int) : Int × Int :=
  if k = 0 ∨ k = 51 then (x, 0) else if k = 1 then (v % 4294967296, 0)
  else if (getS x).2 = 0 ∧ asksB k (getS x).1.op = true then
    (if (putS (getS x).1.op (getS x).1.rd (getS x).1.rs1 (getS x).1.rs2 v).2 = 0 then putS (getS x).1.op (getS x).1.rd (getS x).1.rs1 (getS x).1.rs2 v else (0, 3))
  else (0, 5)
theorem asks_is {k o : Int} (h : asksB k o = true) : Rel.relIs k = true := by
  unfold asksB at h
  unfold Rel.relIs
  rw [decide_eq_true_eq]
  (repeat' split at h) <;> simp at h <;> omega
theorem relIs_calls (k : Int) (w : World) : Calls Try.prog 19 #[.int .u8 k] w fun e w' => e = .returned (.bool (Rel.relIs k)) ∧ Below w.heap.size w w' := (Rel.rkis_calls k w).mono fun e w' h => ⟨h.1, h.2.below⟩
theorem works16_calls (w : World) : Calls Try.prog 16 #[] w fun e w' => e = .returned (.bool true) ∧ Below w.heap.size w w' := (Rel.works_calls w).mono fun e w' h => ⟨h.1, h.2.below⟩
set_option maxHeartbeats 4000000 in
set_option maxRecDepth 100000 in
theorem field_0 (x v : Int) (w : World) : Calls Try.prog 34 #[.int .u8 0, .int .u32 x, .int .i32 v] w fun e w' => e = .returned (.tuple #[.int .u32 x, .int .i64 0]) ∧ Below w.heap.size w w' := by
  go_enter Try.func34, Try.ntmps34
  repeat' (first | (with_reducible refine ex_then ?_) | (with_reducible refine ex_norm ?_) | (with_reducible refine ex_eq ?_) | ((with_reducible refine ex_ne ?_ ?_); exact rfl) | (with_reducible refine ex_thenR ?_) | (with_reducible refine ex_inN ?_) | (with_reducible refine ex_inR ?_) | go_values | go_skip | go_guarded | go_step | go_upon)
  go_ret2
  exact ⟨by first | rfl | (simp; done), Below.refl _ _⟩
set_option maxHeartbeats 4000000 in
set_option maxRecDepth 100000 in
theorem field_51 (x v : Int) (w : World) : Calls Try.prog 34 #[.int .u8 51, .int .u32 x, .int .i32 v] w fun e w' => e = .returned (.tuple #[.int .u32 x, .int .i64 0]) ∧ Below w.heap.size w w' := by
  go_enter Try.func34, Try.ntmps34
  repeat' (first | (with_reducible refine ex_then ?_) | (with_reducible refine ex_norm ?_) | (with_reducible refine ex_eq ?_) | ((with_reducible refine ex_ne ?_ ?_); exact rfl) | (with_reducible refine ex_thenR ?_) | (with_reducible refine ex_inN ?_) | (with_reducible refine ex_inR ?_) | go_values | go_skip | go_guarded | go_step | go_upon)
  go_ret2
  exact ⟨by first | rfl | (simp; done), Below.refl _ _⟩
set_option maxHeartbeats 4000000 in
set_option maxRecDepth 100000 in
theorem field_1 (x v : Int) (w : World) : Calls Try.prog 34 #[.int .u8 1, .int .u32 x, .int .i32 v] w fun e w' => e = .returned (.tuple #[.int .u32 (v % 4294967296), .int .i64 0]) ∧ Below w.heap.size w w' := by
  go_enter Try.func34, Try.ntmps34
  repeat' (first | (with_reducible refine ex_then ?_) | (with_reducible refine ex_norm ?_) | (with_reducible refine ex_eq ?_) | ((with_reducible refine ex_ne ?_ ?_); exact rfl) | (with_reducible refine ex_thenR ?_) | (with_reducible refine ex_inN ?_) | (with_reducible refine ex_inR ?_) | go_values | go_skip | go_guarded | go_step | go_upon)
  go_ret2
  exact ⟨by first | rfl | (simp; done), Below.refl _ _⟩
set_option maxHeartbeats 8000000 in
set_option maxRecDepth 100000 in
theorem field_walk (k x v : Int) (n0 : (k == 0) = false) (n51 : (k == 51) = false) (n1 : (k == 1) = false) (k0 k1 k2 k3 k4 e1 a e2 : Int) (ak is : Bool) (he : e1 = 5 ∨ e1 = 0) (he2 : e2 = 2 ∨ e2 = 0) (his : e1 = 0 → ak = true → is = true)
    (G1 : Aside0 (∀ w, Calls Try.prog 27 #[.int .u32 x] w fun e w' => e = .returned (.tuple #[.agg #[.int .u8 k0, .int .u8 k1, .int .u8 k2, .int .u8 k3, .int .i32 k4], .int .i64 e1]) ∧ Below w.heap.size w w'))
    (AC : Aside0 (∀ w, Calls Try.prog 58 #[.int .u8 k, .int .u8 k0] w fun e w' => e = .returned (.bool ak) ∧ w' = w))
    (P1 : e1 = 0 → ak = true → Aside0 (∀ w, Calls Try.prog 25 #[.agg #[.int .u8 k0, .int .u8 k1, .int .u8 k2, .int .u8 k3, .int .i32 v]] w fun e w' => e = .returned (.tuple #[.int .u32 a, .int .i64 e2]) ∧ Below w.heap.size w w')) (w : World) :
    Calls Try.prog 34 #[.int .u8 k, .int .u32 x, .int .i32 v] w fun e w' => e = .returned (if e1 = 0 ∧ ak = true then (if e2 = 0 then .tuple #[.int .u32 a, .int .i64 0] else .tuple #[.int .u32 0, .int .i64 3]) else .tuple #[.int .u32 0, .int .i64 5]) ∧ Below w.heap.size w w' := by
  obtain ⟨rr, hrr⟩ : ∃ r, (if e1 = 0 ∧ ak = true then (if e2 = 0 then Value.tuple #[.int .u32 a, .int .i64 0] else .tuple #[.int .u32 0, .int .i64 3]) else .tuple #[.int .u32 0, .int .i64 5]) = r := ⟨_, rfl⟩
  rw [hrr]
  have HRR := Aside0.mk hrr
  have HE2 := Aside0.mk he2
  have HIS := Aside0.mk his
  clear hrr he2 his
  go_enter Try.func34, Try.ntmps34
  repeat' (first | (with_reducible refine ex_then ?_) | (with_reducible refine ex_norm ?_) | (with_reducible refine ex_eq ?_) | ((with_reducible refine ex_ne ?_ ?_); exact rfl) | (with_reducible refine ex_thenR ?_) | (with_reducible refine ex_inN ?_) | (with_reducible refine ex_inR ?_) | go_values | go_skip | go_guarded | go_step | go_upon)
  refine (G1.out _).mono ?_
  rintro e w1 ⟨rfl, hb⟩
  have HB1 : Aside0 (Below w.heap.size w w1) := ⟨hb⟩
  have hl1 : w.heap.size ≤ w1.heap.size := hb.size
  clear hb
  rcases he with rfl | rfl
  · go_wp2
    go_ret2
    exact ⟨by rw [← HRR.out]; rfl, HB1.out.alloc hl1 _⟩
  · cases ak
    · go_wp2_with (go_at_call 58; refine (AC.out _).mono ?_; rintro e w' ⟨rfl, rfl⟩; simp only [])
      go_ret2
      exact ⟨by rw [← HRR.out]; rfl, HB1.out.alloc hl1 _⟩
    · have P1' := P1 rfl rfl
      clear P1
      go_wp2_with (go_at_call 58; refine (AC.out _).mono ?_; rintro e w' ⟨rfl, rfl⟩; simp only [])
      refine (P1'.out _).mono ?_
      rintro e w2 ⟨rfl, hb⟩
      have HB2 : Aside0 (Below w.heap.size w w2) := ⟨(HB1.out.alloc hl1 _).trans (hb.mono (by simp; omega))⟩
      clear hb
      rcases HE2.out with rfl | rfl
      · go_wp2
        go_ret2
        exact ⟨by rw [← HRR.out]; rfl, HB2.out⟩
      · go_wp2
        go_ret2
        exact ⟨by rw [← HRR.out]; rfl, HB2.out⟩
theorem field_calls (k x v : Int) (bx : 0 ≤ x ∧ x < 4294967296) (bv : -2147483648 ≤ v ∧ v < 2147483648) (w : World) :
    Calls Try.prog 34 #[.int .u8 k, .int .u32 x, .int .i32 v] w fun e w' => e = .returned (.tuple #[.int .u32 (fieldS k x v).1, .int .i64 (fieldS k x v).2]) ∧ Below w.heap.size w w' := by
  by_cases h0 : k = 0
  · subst h0; exact field_0 x v w
  by_cases h51 : k = 51
  · subst h51; exact field_51 x v w
  by_cases h1 : k = 1
  · subst h1; exact field_1 x v w
  have hf : fieldS k x v = if (getS x).2 = 0 ∧ asksB k (getS x).1.op = true then
    (if (putS (getS x).1.op (getS x).1.rd (getS x).1.rs1 (getS x).1.rs2 v).2 = 0 then putS (getS x).1.op (getS x).1.rd (getS x).1.rs1 (getS x).1.rs2 v else (0, 3))
    else (0, 5) := by
    unfold fieldS
    rw [if_neg (by omega), if_neg h1]
  obtain ⟨⟨i, e1⟩, hg⟩ : ∃ r, getS x = r := ⟨_, rfl⟩
  obtain ⟨⟨a, e2⟩, hp⟩ : ∃ r, putS i.op i.rd i.rs1 i.rs2 v = r := ⟨_, rfl⟩
  have hgc := getS_cases x bx.1 bx.2
  rw [hg] at hf hgc
  simp only [hp] at hf
  have hb : e1 = 5 ∨ (e1 = 0 ∧ (0 ≤ i.op ∧ i.op < 256) ∧ (0 ≤ i.rd ∧ i.rd < 256) ∧ (0 ≤ i.rs1 ∧ i.rs1 < 256) ∧ (0 ≤ i.rs2 ∧ i.rs2 < 256)) := by
    rcases hgc with h | ⟨i', h, c0, c1, c2, c3, _, _⟩
    · exact .inl (congrArg Prod.snd h)
    · obtain rfl : i = i' := congrArg Prod.fst h
      exact .inr ⟨congrArg Prod.snd h, c0, c1, c2, c3⟩
  have hw := field_walk k x v (by simpa using h0) (by simpa using h51) (by simpa using h1) i.op i.rd i.rs1 i.rs2 i.imm e1 a (if e1 = 0 then e2 else 2) (asksB k i.op) (Rel.relIs k)
    (by rcases hb with h | h; exact .inl h; exact .inr h.1)
    (by
      by_cases he : e1 = 0
      · rw [if_pos he]
        rcases hb with h | ⟨_, c0, c1, c2, c3⟩
        · omega
        · rcases putS_cases i.op i.rd i.rs1 i.rs2 v c1.1 c2.1 c3.1 bv with h | ⟨a', h, _⟩
          · rw [hp] at h; exact .inl (congrArg Prod.snd h)
          · rw [hp] at h; exact .inr (congrArg Prod.snd h)
      · rw [if_neg he]; exact .inl rfl)
    (fun _ h => asks_is h)
    ⟨fun w => by have h := get_calls x bx.1 bx.2 w; rw [hg] at h; exact h⟩
    ⟨fun w => asks_calls k i.op w⟩
    (fun he _ => ⟨fun w => by
      rw [if_pos he]
      rcases hb with h | ⟨_, c0, c1, c2, c3⟩
      · omega
      · have h := put_calls i.op i.rd i.rs1 i.rs2 v c0 c1 c2 c3 bv w
        rw [hp] at h; exact h⟩) w
  refine hw.mono fun e w' h => ⟨?_, h.2⟩
  rw [h.1, hf]
  by_cases hc : e1 = 0 ∧ asksB k i.op = true
  · rw [if_pos hc, if_pos hc, if_pos hc.1]
    by_cases he2 : e2 = 0
    · rw [if_pos he2, if_pos he2, he2]
    · rw [if_neg he2, if_neg he2]
  · rw [if_neg hc, if_neg hc]
set_option maxHeartbeats 4000000 in
set_option maxRecDepth 100000 in
theorem rfield_0 (x v : Int) (w : World) : Calls Try.prog 35 #[.int .u8 0, .int .u32 x, .int .i32 v] w fun e w' => e = .returned (.tuple #[.int .u32 x, .int .i64 0]) ∧ Below w.heap.size w w' := by
  go_enter Try.func35, Try.ntmps35
  repeat' (first | (with_reducible refine ex_then ?_) | (with_reducible refine ex_norm ?_) | (with_reducible refine ex_eq ?_) | ((with_reducible refine ex_ne ?_ ?_); exact rfl) | (with_reducible refine ex_thenR ?_) | (with_reducible refine ex_inN ?_) | (with_reducible refine ex_inR ?_) | go_values | go_skip | go_guarded | go_step | go_upon)
  go_ret2
  exact ⟨by first | rfl | (simp; done), Below.refl _ _⟩
set_option maxHeartbeats 4000000 in
set_option maxRecDepth 100000 in
theorem rfield_51 (x v : Int) (w : World) : Calls Try.prog 35 #[.int .u8 51, .int .u32 x, .int .i32 v] w fun e w' => e = .returned (.tuple #[.int .u32 x, .int .i64 0]) ∧ Below w.heap.size w w' := by
  go_enter Try.func35, Try.ntmps35
  repeat' (first | (with_reducible refine ex_then ?_) | (with_reducible refine ex_norm ?_) | (with_reducible refine ex_eq ?_) | ((with_reducible refine ex_ne ?_ ?_); exact rfl) | (with_reducible refine ex_thenR ?_) | (with_reducible refine ex_inN ?_) | (with_reducible refine ex_inR ?_) | go_values | go_skip | go_guarded | go_step | go_upon)
  go_ret2
  exact ⟨by first | rfl | (simp; done), Below.refl _ _⟩
set_option maxHeartbeats 4000000 in
set_option maxRecDepth 100000 in
theorem rfield_1 (x v : Int) (w : World) : Calls Try.prog 35 #[.int .u8 1, .int .u32 x, .int .i32 v] w fun e w' => e = .returned (.tuple #[.int .u32 (v % 4294967296), .int .i64 0]) ∧ Below w.heap.size w w' := by
  go_enter Try.func35, Try.ntmps35
  repeat' (first | (with_reducible refine ex_then ?_) | (with_reducible refine ex_norm ?_) | (with_reducible refine ex_eq ?_) | ((with_reducible refine ex_ne ?_ ?_); exact rfl) | (with_reducible refine ex_thenR ?_) | (with_reducible refine ex_inN ?_) | (with_reducible refine ex_inR ?_) | go_values | go_skip | go_guarded | go_step | go_upon)
  go_ret2
  exact ⟨by first | rfl | (simp; done), Below.refl _ _⟩
set_option maxHeartbeats 8000000 in
set_option maxRecDepth 100000 in
theorem rfield_walk (k x v : Int) (n0 : (k == 0) = false) (n51 : (k == 51) = false) (n1 : (k == 1) = false) (k0 k1 k2 k3 k4 e1 a e2 : Int) (ak is : Bool) (he : e1 = 5 ∨ e1 = 0) (he2 : e2 = 2 ∨ e2 = 0) (his : e1 = 0 → ak = true → is = true)
    (G1 : Aside0 (∀ w, Calls Try.prog 28 #[.int .u32 x] w fun e w' => e = .returned (.tuple #[.agg #[.int .u8 k0, .int .u8 k1, .int .u8 k2, .int .u8 k3, .int .i32 k4], .int .i64 e1]) ∧ Below w.heap.size w w'))
    (AC : Aside0 (∀ w, Calls Try.prog 59 #[.int .u8 k, .int .u8 k0] w fun e w' => e = .returned (.bool ak) ∧ w' = w)) (IS : Aside0 (∀ w, Calls Try.prog 19 #[.int .u8 k] w fun e w' => e = .returned (.bool is) ∧ Below w.heap.size w w'))
    (P1 : e1 = 0 → ak = true → Aside0 (∀ w, Calls Try.prog 26 #[.agg #[.int .u8 k0, .int .u8 k1, .int .u8 k2, .int .u8 k3, .int .i32 v]] w fun e w' => e = .returned (.tuple #[.int .u32 a, .int .i64 e2]) ∧ Below w.heap.size w w')) (w : World) :
    Calls Try.prog 35 #[.int .u8 k, .int .u32 x, .int .i32 v] w fun e w' => e = .returned (if e1 = 0 ∧ ak = true then (if e2 = 0 then .tuple #[.int .u32 a, .int .i64 0] else .tuple #[.int .u32 0, .int .i64 3]) else .tuple #[.int .u32 0, .int .i64 5]) ∧ Below w.heap.size w w' := by
  obtain ⟨rr, hrr⟩ : ∃ r, (if e1 = 0 ∧ ak = true then (if e2 = 0 then Value.tuple #[.int .u32 a, .int .i64 0] else .tuple #[.int .u32 0, .int .i64 3]) else .tuple #[.int .u32 0, .int .i64 5]) = r := ⟨_, rfl⟩
  rw [hrr]
  have HRR := Aside0.mk hrr
  have HE2 := Aside0.mk he2
  have HIS := Aside0.mk his
  clear hrr he2 his
  go_enter Try.func35, Try.ntmps35
  repeat' (first | (with_reducible refine ex_then ?_) | (with_reducible refine ex_norm ?_) | (with_reducible refine ex_eq ?_) | ((with_reducible refine ex_ne ?_ ?_); exact rfl) | (with_reducible refine ex_thenR ?_) | (with_reducible refine ex_inN ?_) | (with_reducible refine ex_inR ?_) | go_values | go_skip | go_guarded | go_step | go_upon)
  refine (G1.out _).mono ?_
  rintro e w1 ⟨rfl, hb⟩
  have HB1 : Aside0 (Below w.heap.size w w1) := ⟨hb⟩
  have hl1 : w.heap.size ≤ w1.heap.size := hb.size
  clear hb
  have hN : InsAt (w1.alloc (Obj.cells #[.int .u8 k0, .int .u8 k1, .int .u8 k2, .int .u8 k3, .int .i32 k4] 40)) w1.heap.size k0 k1 k2 k3 k4 := new_block w1 _
  have HN := Aside0.mk hN
  clear hN
  go_wp2_with fail
  refine (IS.out _).mono ?_
  rintro e w2 ⟨rfl, hb⟩
  have hK : InsAt w2 w1.heap.size k0 k1 k2 k3 k4 := kept hb HN.out
  have HB2 : Aside0 (Below w.heap.size w w2) := ⟨(HB1.out.alloc hl1 _).trans (hb.mono (by simp; omega))⟩
  have hl2 := block_lt hK
  have q0 := cell_of_block hK 0
  have q1 := cell_of_block hK 1
  have q2 := cell_of_block hK 2
  have q3 := cell_of_block hK 3
  have q4 := cell_of_block hK 4
  simp at q0 q1 q2 q3 q4
  have z4 := free_of_block hK 4
  clear hb hK HN
  simp only []
  cases is
  · go_wp2
    go_ret2
    have hno : ¬ (e1 = 0 ∧ ak = true) := fun h => by have := HIS.out h.1 h.2; cases this
    exact ⟨by rw [← HRR.out, if_neg hno]; rfl, HB2.out⟩
  rcases he with rfl | rfl
  · go_wp2
    go_ret2
    exact ⟨by rw [← HRR.out]; rfl, HB2.out⟩
  · cases ak
    · go_wp2_with (go_at_call 59; refine (AC.out _).mono ?_; rintro e w' ⟨rfl, rfl⟩; simp only [])
      go_ret2
      exact ⟨by rw [← HRR.out]; rfl, HB2.out⟩
    · have P1' := P1 rfl rfl
      clear P1
      go_wp2_with (go_at_call 59; refine (AC.out _).mono ?_; rintro e w' ⟨rfl, rfl⟩; simp only [])
      refine (P1'.out _).mono ?_
      rintro e w3 ⟨rfl, hb⟩
      have HB3 : Aside0 (Below w.heap.size w w3) := ⟨(HB2.out.setCell hl1 _).trans (hb.mono (by have := HB2.out.size; simp; omega))⟩
      clear hb
      rcases HE2.out with rfl | rfl
      · go_wp2
        go_ret2
        exact ⟨by rw [← HRR.out]; rfl, HB3.out⟩
      · go_wp2
        go_ret2
        exact ⟨by rw [← HRR.out]; rfl, HB3.out⟩
theorem rfield_calls (k x v : Int) (bx : 0 ≤ x ∧ x < 4294967296) (bv : -2147483648 ≤ v ∧ v < 2147483648) (w : World) :
    Calls Try.prog 35 #[.int .u8 k, .int .u32 x, .int .i32 v] w fun e w' => e = .returned (.tuple #[.int .u32 (fieldS k x v).1, .int .i64 (fieldS k x v).2]) ∧ Below w.heap.size w w' := by
  by_cases h0 : k = 0
  · subst h0; exact rfield_0 x v w
  by_cases h51 : k = 51
  · subst h51; exact rfield_51 x v w
  by_cases h1 : k = 1
  · subst h1; exact rfield_1 x v w
  have hf : fieldS k x v = if (getS x).2 = 0 ∧ asksB k (getS x).1.op = true then
    (if (putS (getS x).1.op (getS x).1.rd (getS x).1.rs1 (getS x).1.rs2 v).2 = 0 then putS (getS x).1.op (getS x).1.rd (getS x).1.rs1 (getS x).1.rs2 v else (0, 3))
    else (0, 5) := by
    unfold fieldS
    rw [if_neg (by omega), if_neg h1]
  obtain ⟨⟨i, e1⟩, hg⟩ : ∃ r, getS x = r := ⟨_, rfl⟩
  obtain ⟨⟨a, e2⟩, hp⟩ : ∃ r, putS i.op i.rd i.rs1 i.rs2 v = r := ⟨_, rfl⟩
  have hgc := getS_cases x bx.1 bx.2
  rw [hg] at hf hgc
  simp only [hp] at hf
  have hb : e1 = 5 ∨ (e1 = 0 ∧ (0 ≤ i.op ∧ i.op < 256) ∧ (0 ≤ i.rd ∧ i.rd < 256) ∧ (0 ≤ i.rs1 ∧ i.rs1 < 256) ∧ (0 ≤ i.rs2 ∧ i.rs2 < 256)) := by
    rcases hgc with h | ⟨i', h, c0, c1, c2, c3, _, _⟩
    · exact .inl (congrArg Prod.snd h)
    · obtain rfl : i = i' := congrArg Prod.fst h
      exact .inr ⟨congrArg Prod.snd h, c0, c1, c2, c3⟩
  have hw := rfield_walk k x v (by simpa using h0) (by simpa using h51) (by simpa using h1) i.op i.rd i.rs1 i.rs2 i.imm e1 a (if e1 = 0 then e2 else 2) (asksB k i.op) (Rel.relIs k)
    (by rcases hb with h | h; exact .inl h; exact .inr h.1)
    (by
      by_cases he : e1 = 0
      · rw [if_pos he]
        rcases hb with h | ⟨_, c0, c1, c2, c3⟩
        · omega
        · rcases putS_cases i.op i.rd i.rs1 i.rs2 v c1.1 c2.1 c3.1 bv with h | ⟨a', h, _⟩
          · rw [hp] at h; exact .inl (congrArg Prod.snd h)
          · rw [hp] at h; exact .inr (congrArg Prod.snd h)
      · rw [if_neg he]; exact .inl rfl)
    (fun _ h => asks_is h)
    ⟨fun w => by have h := rget_calls x bx.1 bx.2 w; rw [hg] at h; exact h⟩
    ⟨fun w => form_calls k i.op w⟩
    ⟨fun w => relIs_calls k w⟩
    (fun he _ => ⟨fun w => by
      rw [if_pos he]
      rcases hb with h | ⟨_, c0, c1, c2, c3⟩
      · omega
      · have h := rput_calls i.op i.rd i.rs1 i.rs2 v c0 c1 c2 c3 bv w
        rw [hp] at h; exact h⟩) w
  refine hw.mono fun e w' h => ⟨?_, h.2⟩
  rw [h.1, hf]
  by_cases hc : e1 = 0 ∧ asksB k i.op = true
  · rw [if_pos hc, if_pos hc, if_pos hc.1]
    by_cases he2 : e2 = 0
    · rw [if_pos he2, if_pos he2, he2]
    · rw [if_neg he2, if_neg he2]
  · rw [if_neg hc, if_neg hc]

set_option maxHeartbeats 8000000 in
set_option maxRecDepth 100000 in
theorem fields_walk (k x v a e1 : Int)
    (F1 : Aside0 (∀ w, Calls Try.prog 34 #[.int .u8 k, .int .u32 x, .int .i32 v] w fun e w' => e = .returned (.tuple #[.int .u32 a, .int .i64 e1]) ∧ Below w.heap.size w w'))
    (F2 : Aside0 (∀ w, Calls Try.prog 35 #[.int .u8 k, .int .u32 x, .int .i32 v] w fun e w' => e = .returned (.tuple #[.int .u32 a, .int .i64 e1]) ∧ Below w.heap.size w w')) (w : World) :
    Calls Try.prog 13 #[.int .u8 k, .int .u32 x, .int .i32 v] w fun e w' => e = .returned (.bool true) ∧ Below w.heap.size w w' := by
  have WK : Aside0 (∀ w, Calls Try.prog 16 #[] w fun e w' => e = .returned (.bool true) ∧ Below w.heap.size w w') := ⟨works16_calls⟩
  go_enter Try.func13, Try.ntmps13
  go_wp2_with fail
  refine (F1.out _).mono ?_
  rintro e w1 ⟨rfl, hb⟩
  have HB1 : Aside0 (Below w.heap.size w w1) := ⟨hb⟩
  clear hb
  go_wp2_with fail
  refine (F2.out _).mono ?_
  rintro e w2 ⟨rfl, hb⟩
  have HB2 : Aside0 (Below w.heap.size w w2) := ⟨HB1.out.trans (hb.mono HB1.out.size)⟩
  clear hb
  go_wp2_with fail
  refine (WK.out _).mono ?_
  rintro e w3 ⟨rfl, hb⟩
  have HB3 : Aside0 (Below w.heap.size w w3) := ⟨HB2.out.trans (hb.mono HB2.out.size)⟩
  clear hb
  simp only []
  go_wp2
  go_ret
  exact ⟨by first | rfl | simp, HB3.out⟩
theorem relocFields_walk (k x v : Int) (w : World) (v0 : (Lit.int .u8 k).wf = true) (v1 : (Lit.int .u32 x).wf = true) (v2 : (Lit.int .i32 v).wf = true) :
    Calls Try.prog 13 #[.int .u8 k, .int .u32 x, .int .i32 v] w fun e w' => e = .returned (.bool true) ∧ Below w.heap.size w w' :=
  fields_walk k x v _ _ ⟨field_calls k x v (wf_u32 v1) (wf_i32 v2)⟩ ⟨rfield_calls k x v (wf_u32 v1) (wf_i32 v2)⟩ w

set_option maxHeartbeats 8000000 in
set_option maxRecDepth 100000 in
theorem one_field_walk (k o rd rs1 rs2 imm v a x f e1 : Int) (he1 : e1 = 2 ∨ e1 = 0) (hf : (f = 0) ∨ (x = 0 ∧ f = 5) ∨ (x = 0 ∧ f = 3)) (hk : f = 0 → ((k = 0 ∧ x = a) ∨ (k = 51 ∧ x = a) ∨ (k = 1 ∧ x = v % 4294967296) ∨ ((k == 0) = false ∧ (k == 51) = false ∧ (k == 1) = false)))
    (P1 : Aside0 (∀ w, Calls Try.prog 26 #[.agg #[.int .u8 o, .int .u8 rd, .int .u8 rs1, .int .u8 rs2, .int .i32 imm]] w fun e w' => e = .returned (.tuple #[.int .u32 a, .int .i64 e1]) ∧ Below w.heap.size w w'))
    (F1 : e1 = 0 → Aside0 (∀ w, Calls Try.prog 34 #[.int .u8 k, .int .u32 a, .int .i32 v] w fun e w' => e = .returned (.tuple #[.int .u32 x, .int .i64 f]) ∧ Below w.heap.size w w'))
    (G1 : e1 = 0 → f = 0 → (k == 0) = false → (k == 51) = false → (k == 1) = false → Aside0 (∀ w, Calls Try.prog 28 #[.int .u32 x] w fun e w' => e = .returned (.tuple #[.agg #[.int .u8 o, .int .u8 rd, .int .u8 rs1, .int .u8 rs2, .int .i32 v], .int .i64 0]) ∧ Below w.heap.size w w')) (w : World) :
    Calls Try.prog 14 #[.int .u8 k, .agg #[.int .u8 o, .int .u8 rd, .int .u8 rs1, .int .u8 rs2, .int .i32 imm], .int .i32 v] w fun e w' => e = .returned (.bool true) ∧ Below w.heap.size w w' := by
  have WK : Aside0 (∀ w, Calls Try.prog 16 #[] w fun e w' => e = .returned (.bool true) ∧ Below w.heap.size w w') := ⟨works16_calls⟩
  have HF := Aside0.mk hf
  have HK := Aside0.mk hk
  have HG1 := Aside0.mk G1
  have HF1 := Aside0.mk F1
  clear hf hk G1 F1
  go_enter Try.func14, Try.ntmps14
  go_wp2_with fail
  refine (P1.out _).mono ?_
  rintro e w1 ⟨rfl, hb⟩
  have hP : InsAt w1 w.heap.size o rd rs1 rs2 imm := kept hb (new_block w _)
  have HP := Aside0.mk hP
  have HB1 : Aside0 (Below w.heap.size w w1) := ⟨((Below.refl _ _).alloc (Nat.le_refl _) _).trans (hb.mono (by simp))⟩
  have hl1 := block_lt hP
  clear hb hP
  rcases he1 with rfl | rfl
  · go_wp2_with fail
    refine (WK.out _).mono ?_
    rintro e w3 ⟨rfl, hb⟩
    have HB3 : Aside0 (Below w.heap.size w w3) := ⟨HB1.out.trans (hb.mono (Nat.le_of_lt hl1))⟩
    clear hb
    go_wp2
    go_ret
    exact ⟨by first | rfl | simp, HB3.out⟩
  have F1' := HF1.out rfl
  go_wp2_with fail
  refine (F1'.out _).mono ?_
  rintro e w2 ⟨rfl, hb⟩
  have hP2 : InsAt w2 w.heap.size o rd rs1 rs2 imm := kept hb HP.out
  have HP2 := Aside0.mk hP2
  have HB2 : Aside0 (Below w.heap.size w w2) := ⟨HB1.out.trans (hb.mono (Nat.le_of_lt hl1))⟩
  have hl2 := block_lt hP2
  clear hb hP2 HP
  rcases HF.out with rfl | ⟨rfl, rfl⟩ | ⟨rfl, rfl⟩
  · rcases HK.out rfl with ⟨rfl, rfl⟩ | ⟨rfl, rfl⟩ | ⟨rfl, rfl⟩ | ⟨n0, n51, n1⟩
    case inr.inr.inr =>
      have G1' := HG1.out (by first | rfl | trivial) (by first | rfl | trivial) (by first | assumption | trivial) (by first | assumption | trivial) (by first | assumption | trivial)
      go_wp2_with fail
      refine (G1'.out _).mono ?_
      rintro e w3 ⟨rfl, hb⟩
      have hP3 : InsAt w3 w.heap.size o rd rs1 rs2 imm := kept hb HP2.out
      have HB3 : Aside0 (Below w.heap.size w w3) := ⟨HB2.out.trans (hb.mono (Nat.le_of_lt hl2))⟩
      have hl3 := block_lt hP3
      have q0 := cell_of_block hP3 0
      have q1 := cell_of_block hP3 1
      have q2 := cell_of_block hP3 2
      have q3 := cell_of_block hP3 3
      have q4 := cell_of_block hP3 4
      simp at q0 q1 q2 q3 q4
      have z4 := free_of_block hP3 4
      clear hb hP3 HP2
      go_wp2_with fail
      refine (WK.out _).mono ?_
      rintro e w4 ⟨rfl, hb⟩
      have HB4 : Aside0 (Below w.heap.size w w4) := ⟨below_through HB3.out (Below.alloc (below_set (Below.refl _ _)) (by simp; omega) _) (Nat.le_refl _) hb (by simp; omega)⟩
      clear hb
      simp only []
      go_wp2
      go_ret
      exact ⟨by first | rfl | simp, HB4.out⟩
    all_goals
      go_wp2_with fail
      refine (WK.out _).mono ?_
      rintro e w3 ⟨rfl, hb⟩
      have HB3 : Aside0 (Below w.heap.size w w3) := ⟨HB2.out.trans (hb.mono (Nat.le_of_lt hl2))⟩
      clear hb
      simp only []
      go_wp2
      go_ret
      exact ⟨by first | rfl | simp, HB3.out⟩
  all_goals
    go_wp2_with fail
    refine (WK.out _).mono ?_
    rintro e w3 ⟨rfl, hb⟩
    have HB3 : Aside0 (Below w.heap.size w w3) := ⟨HB2.out.trans (hb.mono (Nat.le_of_lt hl2))⟩
    clear hb
    simp only []
    go_wp2
    go_ret
    exact ⟨by first | rfl | simp, HB3.out⟩
theorem relocField_walk (k o rd rs1 rs2 imm v : Int) (w : World) (u0 : (Lit.int .u8 k).wf = true) (v0 : (Lit.int .u8 o).wf = true) (v1 : (Lit.int .u8 rd).wf = true) (v2 : (Lit.int .u8 rs1).wf = true) (v3 : (Lit.int .u8 rs2).wf = true) (v4 : (Lit.int .i32 imm).wf = true) (v5 : (Lit.int .i32 v).wf = true) :
    Calls Try.prog 14 #[.int .u8 k, .agg #[.int .u8 o, .int .u8 rd, .int .u8 rs1, .int .u8 rs2, .int .i32 imm], .int .i32 v] w fun e w' => e = .returned (.bool true) ∧ Below w.heap.size w w' := by
  have b0 := wf_u8 v0; have b1 := wf_u8 v1; have b2 := wf_u8 v2; have b3 := wf_u8 v3; have b4 := wf_i32 v4; have b5 := wf_i32 v5
  have hpc := putS_cases o rd rs1 rs2 imm b1.1 b2.1 b3.1 b4
  obtain ⟨⟨a, e1⟩, hp⟩ : ∃ r, putS o rd rs1 rs2 imm = r := ⟨_, rfl⟩
  obtain ⟨⟨x, f⟩, hx⟩ : ∃ r, fieldS k a v = r := ⟨_, rfl⟩
  rw [hp] at hpc
  have PC : Aside0 (∀ w, Calls Try.prog 26 #[.agg #[.int .u8 o, .int .u8 rd, .int .u8 rs1, .int .u8 rs2, .int .i32 imm]] w fun e w' => e = .returned (.tuple #[.int .u32 a, .int .i64 e1]) ∧ Below w.heap.size w w') :=
    ⟨fun w => by have h := rput_calls o rd rs1 rs2 imm b0 b1 b2 b3 b4 w; rw [hp] at h; exact h⟩
  rcases hpc with h | ⟨a', h, a0, a1, hga⟩
  · have he : e1 = 2 := congrArg Prod.snd h
    subst he
    refine one_field_walk k o rd rs1 rs2 imm v a 0 5 2 (.inl rfl) (.inr (.inl ⟨rfl, rfl⟩)) (fun h => absurd h (by decide)) PC (fun h => absurd h (by decide)) (fun h => absurd h (by decide)) w
  · have he : e1 = 0 := congrArg Prod.snd h
    subst he
    obtain rfl : a = a' := congrArg Prod.fst h
    have key : f = 0 ∨ (x = 0 ∧ f = 5) ∨ (x = 0 ∧ f = 3) := by
      unfold fieldS at hx
      (repeat' split at hx) <;> first | exact .inl (congrArg Prod.snd hx).symm | exact .inr (.inl ⟨(congrArg Prod.fst hx).symm, (congrArg Prod.snd hx).symm⟩) | exact .inr (.inr ⟨(congrArg Prod.fst hx).symm, (congrArg Prod.snd hx).symm⟩) | (rename_i hz; rw [hx] at hz; exact .inl hz)
    refine one_field_walk k o rd rs1 rs2 imm v a x f 0 (.inr rfl) key ?_ PC (fun _ => ⟨fun w => ?_⟩) ?_ w
    · intro hf0
      by_cases h0 : k = 0
      · unfold fieldS at hx; rw [if_pos (.inl h0)] at hx; exact .inl ⟨h0, (congrArg Prod.fst hx).symm⟩
      by_cases h51 : k = 51
      · unfold fieldS at hx; rw [if_pos (.inr h51)] at hx; exact .inr (.inl ⟨h51, (congrArg Prod.fst hx).symm⟩)
      by_cases h1 : k = 1
      · unfold fieldS at hx; rw [if_neg (by omega), if_pos h1] at hx; exact .inr (.inr (.inl ⟨h1, (congrArg Prod.fst hx).symm⟩))
      exact .inr (.inr (.inr ⟨by simpa using h0, by simpa using h51, by simpa using h1⟩))
    · have h := field_calls k a v ⟨a0, a1⟩ b5 w
      rw [hx] at h; exact h
    · intro _ hf0 n0 n51 n1
      have n0' : ¬ k = 0 := by simpa using n0
      have n51' : ¬ k = 51 := by simpa using n51
      have n1' : ¬ k = 1 := by simpa using n1
      unfold fieldS at hx
      rw [if_neg (by omega), if_neg n1', hga] at hx
      simp only [] at hx
      have hpv : putS o rd rs1 rs2 v = (x, 0) := by
        split at hx
        · split at hx
          · rw [hx, hf0]
          · exact absurd ((congrArg Prod.snd hx).trans hf0) (show ¬ (3 : Int) = 0 by decide)
        · exact absurd ((congrArg Prod.snd hx).trans hf0) (show ¬ (5 : Int) = 0 by decide)
      obtain ⟨x0, x1, hgx⟩ := put_get o rd rs1 rs2 v x b1.1 b2.1 b3.1 b5 hpv
      refine ⟨fun w => ?_⟩
      have h := rget_calls x x0 x1 w
      rw [hgx] at h; exact h
end Go.Proofs.Ythkbjoglhfclmaa.Fld
