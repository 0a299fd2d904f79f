/- Contract of ref05.Get: getS. No condition beyond the kind's bounds. -/
import Derived.Test.YthkbjoglhfclmaaQInsR2
import Derived.Test.YthkbjoglhfclmaaQLone
import Derived.LoopTactic
namespace Go.Proofs.Ythkbjoglhfclmaa.Ins
open Go.RowKit Go.Proofs.YthkbjoglhfclmaaW.PrintWords Go.Proofs.YthkbjoglhfclmaaW.PrintLast Go.Proofs.Ythkbjoglhfclmaa.Alu Go.Proofs.Ythkbjoglhfclmaa.InsP
set_option linter.unusedVariables false
set_option linter.unusedSimpArgs false
/-- What is put of what a row makes of a word. -/
def putD (j : Nat) (x : Int) : Int × Int := putS (decS (pairs.getD j (0, 0)) x).op (decS (pairs.getD j (0, 0)) x).rd (decS (pairs.getD j (0, 0)) x).rs1 (decS (pairs.getD j (0, 0)) x).rs2 (decS (pairs.getD j (0, 0)) x).imm

theorem below_set {base off : Nat} {w w' : World} {v : Value} (h : Below base w w') : Below base w (w'.setCell ⟨base, off, none⟩ v) := h.setCell (Nat.le_refl _) _
theorem through {base b : Nat} {o : Obj} {W5 W7 w10 : World} (h : W5.heap[b]? = some o) (hlt : b < base) (h57 : Below base W5 W7) (hb : Below W7.heap.size W7 w10) (hle : b < W7.heap.size) : w10.heap[b]? = some o :=
  (hb.block _ hle).trans ((h57.block _ hlt).trans h)
theorem below_through {base : Nat} {w W5 W7 w10 : World} (h : Below w.heap.size w W5) (h57 : Below base W5 W7) (hwb : w.heap.size ≤ base) (hb : Below W7.heap.size W7 w10) (hle : w.heap.size ≤ W7.heap.size) : Below w.heap.size w w10 :=
  h.trans ((h57.mono hwb).trans (hb.mono hle))

theorem orJ (x : Int) (h0 : 0 ≤ x) (h1 : x < 4294967296) : (Go.bits .or .u32 (Go.bits .or .u32 (Go.bits .or .u32 (x / 2147483648 % 2 * 1048576) (x / 4096 % 256 * 4096)) (x / 1048576 % 2 * 2048)) (x / 2097152 % 1024 * 2)) = x / 2147483648 % 2 * 1048576 + x / 4096 % 256 * 4096 + x / 1048576 % 2 * 2048 + x / 2097152 % 1024 * 2 := by
  rw [or_dn (x / 2147483648 % 2 * 1048576) (x / 4096 % 256 * 4096) 20 (by omega) (by omega) (by omega) (by omega) (by omega) (by omega), or_dn (x / 2147483648 % 2 * 1048576 + x / 4096 % 256 * 4096) (x / 1048576 % 2 * 2048) 12 (by omega) (by omega) (by omega) (by omega) (by omega) (by omega), or_dn (x / 2147483648 % 2 * 1048576 + x / 4096 % 256 * 4096 + x / 1048576 % 2 * 2048) (x / 2097152 % 1024 * 2) 11 (by omega) (by omega) (by omega) (by omega) (by omega) (by omega)]
theorem orB (x : Int) (h0 : 0 ≤ x) (h1 : x < 4294967296) : (Go.bits .or .u32 (Go.bits .or .u32 (Go.bits .or .u32 (x / 2147483648 % 2 * 4096) (x / 128 % 2 * 2048)) (x / 33554432 % 64 * 32)) (x / 256 % 16 * 2)) = x / 2147483648 % 2 * 4096 + x / 128 % 2 * 2048 + x / 33554432 % 64 * 32 + x / 256 % 16 * 2 := by
  rw [or_dn (x / 2147483648 % 2 * 4096) (x / 128 % 2 * 2048) 12 (by omega) (by omega) (by omega) (by omega) (by omega) (by omega), or_dn (x / 2147483648 % 2 * 4096 + x / 128 % 2 * 2048) (x / 33554432 % 64 * 32) 11 (by omega) (by omega) (by omega) (by omega) (by omega) (by omega), or_dn (x / 2147483648 % 2 * 4096 + x / 128 % 2 * 2048 + x / 33554432 % 64 * 32) (x / 256 % 16 * 2) 5 (by omega) (by omega) (by omega) (by omega) (by omega) (by omega)]
theorem orS (x : Int) (h0 : 0 ≤ x) (h1 : x < 4294967296) : (Go.bits .or .u32 (x / 33554432 % 128 * 32) (x / 128 % 32)) = x / 33554432 % 128 * 32 + x / 128 % 32 := by
  rw [or_dn (x / 33554432 % 128 * 32) (x / 128 % 32) 5 (by omega) (by omega) (by omega) (by omega) (by omega) (by omega)]
set_option maxHeartbeats 16000000 in
set_option maxRecDepth 100000 in
theorem rget_at (J : Nat) (hJ : J ≤ 68) (x : Int) (h0 : 0 ≤ x) (h1 : x < 4294967296) (hno : ∀ j, j < J → putD j x ≠ (x, 0)) (hyes : J < 68 → putD J x = (x, 0)) (r : I5 × Int) (hr : r = if J < 68 then (decS (pairs.getD J (0, 0)) x, (0 : Int)) else (⟨0, 0, 0, 0, 0⟩, 5)) (w : World) :
    Calls Try.prog 28 #[.int .u32 x] w fun e w' => e = .returned (getV r) ∧ Below w.heap.size w w' := by
  have HH : Aside0 (J ≤ 68 ∧ (∀ j, j < J → putD j x ≠ (x, 0)) ∧ (J < 68 → putD J x = (x, 0))) := ⟨hJ, hno, hyes⟩
  have HR := Aside0.mk hr
  have HEJ := Aside0.mk (orJ x h0 h1)
  have HEB := Aside0.mk (orB x h0 h1)
  have HES := Aside0.mk (orS x h0 h1)
  have hU := andNot4095 x h0 h1
  clear hJ hno hyes hr
  go_enter Try.func28, Try.ntmps28
  go_wp2_with fail
  refine (table_calls _).mono ?_
  rintro e w1 ⟨g, rfl, hF, hb⟩
  have hz : w.heap.size + 1 ≤ w1.heap.size := by have := hb.size; simpa using this
  have hblk : w1.heap[w.heap.size]? = some (.cells #[Value.int IntKind.u8 0, Value.int IntKind.u8 0, Value.int IntKind.u8 0, Value.int IntKind.u8 0, Value.int IntKind.i32 0] 40 (0, 0)) := kept hb (new_block w _)
  have HF : Aside0 (RowsAt w1 g) := ⟨hF⟩
  have HB : Aside0 (Below w.heap.size w w1) := ⟨((Below.refl _ _).alloc (Nat.le_refl _) _).trans (hb.mono (by simp))⟩
  have HW : Aside0 (w1.heap[w.heap.size]? = some (.cells #[Value.int IntKind.u8 0, Value.int IntKind.u8 0, Value.int IntKind.u8 0, Value.int IntKind.u8 0, Value.int IntKind.i32 0] 40 (0, 0)) ∧ w.heap.size + 1 ≤ w1.heap.size) := ⟨hblk, hz⟩
  clear hblk hz hb hF
  go_wp2
  go_loopw [5] (fun v5 wr => ∃ j : Nat, v5 = .int .i64 j ∧ Aside0 (j ≤ J) ∧ Aside0 (RowsAt wr g) ∧ Aside0 (Below w.heap.size w wr) ∧ Aside0 (wr.heap[w.heap.size]? = some (.cells #[Value.int IntKind.u8 0, Value.int IntKind.u8 0, Value.int IntKind.u8 0, Value.int IntKind.u8 0, Value.int IntKind.i32 0] 40 (0, 0)) ∧ w.heap.size + 1 ≤ wr.heap.size)) (fun v5 _ => 68 - (intOf v5).toNat)
  case atStart => exact ⟨0, rfl, ⟨Nat.zero_le _⟩, HF, HB, HW⟩
  case round =>
    clear HF HB HW
    obtain ⟨j, rfl, HJ, HF, HB, HW⟩ := hrel
    by_cases hj68 : j < 68
    · obtain ⟨r0, r1, r2, r3, r4, r5⟩ := HF.out.get j hj68
      have hglt := HF.out.lt
      obtain ⟨hblk, hz⟩ := HW.out
      obtain ⟨hp, hop, _, f0, f1, hfm⟩ := row_facts1 j hj68
      obtain ⟨p, hpj⟩ : ∃ p, pairs.getD j (0, 0) = p := ⟨_, rfl⟩
      rw [hpj] at hp hop hfm
      have HPJ := Aside0.mk hpj
      clear hpj
      generalize (row5 j).name = nm at *
      generalize (row5 j).code = code at *
      generalize (row5 j).f3 = f3 at *
      generalize (row5 j).extra = extra at *
      generalize (row5 j).form = form at *
      obtain ⟨dr, hdr⟩ : ∃ v, rdF (formP p) x = v := ⟨_, rfl⟩
      obtain ⟨d1, hd1⟩ : ∃ v, rs1F (formP p) x = v := ⟨_, rfl⟩
      obtain ⟨d2, hd2⟩ : ∃ v, rs2F (formP p) x = v := ⟨_, rfl⟩
      obtain ⟨di, hdi⟩ : ∃ v, getF (formP p) x = v := ⟨_, rfl⟩
      have hdi2 := get_in (formP p) (words_in p hp).1 x h0 h1
      rw [hdi] at hdi2
      obtain ⟨⟨v, e0⟩, hve⟩ : ∃ q, putS ((j : Int) + 1) dr d1 d2 di = q := ⟨_, rfl⟩
      have bnd : (0 ≤ dr ∧ dr < 256) ∧ (0 ≤ d1 ∧ d1 < 256) ∧ (0 ≤ d2 ∧ d2 < 256) := by
        rw [← hdr, ← hd1, ← hd2]; unfold rdF rs1F rs2F
        refine ⟨?_, ?_, ?_⟩ <;> split <;> omega
      have hD : decS (pairs.getD j (0, 0)) x = ⟨(j : Int) + 1, dr, d1, d2, di⟩ := by
        rw [HPJ.out]; unfold decS; rw [hop, hdr, hd1, hd2, hdi]
      have hPD : putD j x = (v, e0) := by unfold putD; rw [hD]; exact hve
      have hec : (e0 = 2) ∨ (e0 = 0 ∧ v ≠ x ∧ j < J) ∨ (e0 = 0 ∧ v = x ∧ j = J ∧ J < 68) := by
        have hn := HH.out.2.1 j
        have hy := HH.out.2.2
        rcases putS_cases ((j : Int) + 1) dr d1 d2 di bnd.1.1 bnd.2.1.1 bnd.2.2.1 hdi2 with h | ⟨a, h, _⟩
        · rw [hve] at h
          exact .inl (congrArg Prod.snd h)
        · rw [hve] at h
          have he : e0 = 0 := congrArg Prod.snd h
          subst he
          rcases Nat.lt_or_ge j J with hjl | hjl
          · refine .inr (.inl ⟨rfl, fun hvx => hn hjl ?_, hjl⟩)
            rw [hPD, hvx]
          · have hjJ : j = J := by have := HJ.out; omega
            subst hjJ
            have := hy hj68
            rw [hPD] at this
            exact .inr (.inr ⟨rfl, congrArg Prod.fst this, rfl, hj68⟩)
      have hlast : e0 = 2 → j < J := fun he => by
        rcases Nat.lt_or_ge j J with hjl | hjl
        · exact hjl
        · have hjJ : j = J := by have := HJ.out; omega
          subst hjJ
          have := HH.out.2.2 hj68
          rw [hPD, he] at this
          exact absurd (congrArg Prod.snd this) (show ¬ (2 : Int) = 0 by decide)
      have RP : Aside0 (∀ o' a b c d w, o' = (j : Int) + 1 → a = dr → b = d1 → c = d2 → d = di → Calls Try.prog 26 #[.agg #[.int .u8 o', .int .u8 a, .int .u8 b, .int .u8 c, .int .i32 d]] w fun e w' => e = .returned (.tuple #[.int .u32 v, .int .i64 e0]) ∧ Below w.heap.size w w') := ⟨by
        intro o' a b c d w ho ha hb hc hd
        subst ho ha hb hc hd
        have h := rput_calls ((j : Int) + 1) a b c d ⟨by omega, by omega⟩ bnd.1 bnd.2.1 bnd.2.2 hdi2 w
        rw [hve] at h
        exact h⟩
      have EQD : Aside0 (rdF (formP p) x = dr ∧ rs1F (formP p) x = d1 ∧ rs2F (formP p) x = d2 ∧ getF (formP p) x = di ∧ formP p = fmR form.toNat) := ⟨hdr, hd1, hd2, hdi, hfm⟩
      have HEC : Aside0 ((e0 = 2 ∧ j < J) ∨ (e0 = 0 ∧ v ≠ x ∧ j < J) ∨ (e0 = 0 ∧ v = x ∧ j = J ∧ J < 68)) := ⟨by rcases hec with h | h | h; exact .inl ⟨h, hlast h⟩; exact .inr (.inl h); exact .inr (.inr h)⟩
      have HD := Aside0.mk hD
      have hj1 : (j : Int) + 1 < 256 := by omega
      have hrow := f1
      clear hdr hd1 hd2 hdi hdi2 hve bnd hD hPD hec hlast hp hop hfm
      obtain ⟨a7, ha7⟩ : ∃ v, x / 128 % 32 = v := ⟨_, rfl⟩
      obtain ⟨a15, ha15⟩ : ∃ v, x / 32768 % 32 = v := ⟨_, rfl⟩
      obtain ⟨a20, ha20⟩ : ∃ v, x / 1048576 % 32 = v := ⟨_, rfl⟩
      have B7 : Aside0 (∀ w, Calls Try.prog 53 #[.int .u32 x, .int .u64 7, .int .u64 5] w fun e w' => e = .returned (.int .u32 a7) ∧ w' = w) := ⟨fun w => by rw [← ha7]; exact bits_7_5 x w h0 h1⟩
      have B15 : Aside0 (∀ w, Calls Try.prog 53 #[.int .u32 x, .int .u64 15, .int .u64 5] w fun e w' => e = .returned (.int .u32 a15) ∧ w' = w) := ⟨fun w => by rw [← ha15]; exact bits_15_5 x w h0 h1⟩
      have B20 : Aside0 (∀ w, Calls Try.prog 53 #[.int .u32 x, .int .u64 20, .int .u64 5] w fun e w' => e = .returned (.int .u32 a20) ∧ w' = w) := ⟨fun w => by rw [← ha20]; exact bits_20_5 x w h0 h1⟩
      have w7 : IntKind.u8.wrap a7 = a7 := by rw [IntKind.wrap_u8]; omega
      have w15 : IntKind.u8.wrap a15 = a15 := by rw [IntKind.wrap_u8]; omega
      have w20 : IntKind.u8.wrap a20 = a20 := by rw [IntKind.wrap_u8]; omega
      have HA : Aside0 (x / 128 % 32 = a7 ∧ x / 32768 % 32 = a15 ∧ x / 1048576 % 32 = a20) := ⟨ha7, ha15, ha20⟩
      clear ha7 ha15 ha20
      go_wp2_with fail
      generalize hW3 : wr.alloc (Obj.cells #[.int .u8 ((j : Int) + 1), .string nm, .int .i64 form, .int .u32 code, .int .u32 f3, .int .u32 extra] 79) = W3
      have hzr : wr.heap.size < W3.heap.size := by rw [← hW3]; simp
      have HB3 : Aside0 (Below wr.heap.size wr W3) := ⟨by rw [← hW3]; exact below_alloc (Below.refl _ _) _⟩
      have t0 : W3.cell? ⟨wr.heap.size, 0, none⟩ = some (.int .u8 ((j : Int) + 1)) := by rw [← hW3]; simp [go_sem]
      have t2 : W3.cell? ⟨wr.heap.size, 2, none⟩ = some (.int .i64 form) := by rw [← hW3]; simp [go_sem]
      clear hW3 r0 r1 r2 r3 r4 r5 hblk
      refine Lone.wp_region_lone 12 139 (oX := { dst := some 7, op := Op.alloc 40, type := 0, pos := "ref.go:142", after := #[], guard := none }) (px := .pointer (some ⟨W3.heap.size, 0, none⟩)) (W := W3.drew) (W' := W3.drew.alloc (Obj.cells #[Value.int IntKind.u8 0, Value.int IntKind.u8 0, Value.int IntKind.u8 0, Value.int IntKind.u8 0, Value.int IntKind.i32 0] 40)) (fun ws => ws.cell? ⟨wr.heap.size, 0, none⟩ = some (.int .u8 ((j : Int) + 1))) ?A (by kernel_rfl) (by kernel_rfl) rfl rfl rfl rfl rfl (fun a => by go_simp) t0 (by rw [World.cell?_alloc_lt _ _ _ hzr]; exact t0) ?hs ?_
      case hs =>
        intro ws e0'
        simp only [List.take_succ_cons, List.take_zero]
        repeat still_step
        still_call (B7.out _)
        repeat still_step
        still_call (B15.out _)
        repeat still_step
        still_call (B20.out _)
        repeat still_step
        refine wpStill_nil ?_
        exact rfl
      iterate 2 go_step
      generalize hW5 : (W3.alloc (Obj.cells #[Value.int IntKind.u8 ((j : Int) + 1), Value.int IntKind.u8 a7, Value.int IntKind.u8 a15, Value.int IntKind.u8 a20, Value.int IntKind.i32 0] 40)).drew = W5
      have hz5 : W3.heap.size < W5.heap.size := by rw [← hW5]; simp
      have HB35 : Below W3.heap.size W3 W5 := by rw [← hW5]; exact below_drew (below_alloc (Below.refl _ _) _)
      have hN : W5.heap[W3.heap.size]? = some (.cells #[Value.int IntKind.u8 ((j : Int) + 1), Value.int IntKind.u8 a7, Value.int IntKind.u8 a15, Value.int IntKind.u8 a20, Value.int IntKind.i32 0] 40 (0, 0)) := by rw [← hW5]; exact new_block W3 _
      have d0 := cell_of_block hN 0
      have d1' := cell_of_block hN 1
      have d2' := cell_of_block hN 2
      have d3 := cell_of_block hN 3
      have d4 := cell_of_block hN 4
      simp at d0 d1' d2' d3 d4
      have z0 := free_of_block hN 0
      have z1 := free_of_block hN 1
      have z2 := free_of_block hN 2
      have z3 := free_of_block hN 3
      have z4 := free_of_block hN 4
      have s0 : W5.cell? ⟨wr.heap.size, 0, none⟩ = some (.int .u8 ((j : Int) + 1)) := pw_cell_below HB35 t0
      have s2 : W5.cell? ⟨wr.heap.size, 2, none⟩ = some (.int .i64 form) := pw_cell_below HB35 t2
      have HF5 : Aside0 (W5.heap[g]? = some (.cells tabCells 79 (0, 0)) ∧ g < W3.heap.size) := ⟨kept HB35 (kept HB3.out HF.out), by omega⟩
      have HW5 : Aside0 (W5.heap[w.heap.size]? = some (.cells #[Value.int IntKind.u8 0, Value.int IntKind.u8 0, Value.int IntKind.u8 0, Value.int IntKind.u8 0, Value.int IntKind.i32 0] 40 (0, 0)) ∧ w.heap.size < W3.heap.size) := ⟨kept HB35 (kept HB3.out HW.out.1), by omega⟩
      have HB05 : Aside0 (Below w.heap.size w W5) := ⟨HB.out.trans ((HB3.out.mono (by omega)).trans (HB35.mono (by omega)))⟩
      have hne : wr.heap.size ≠ W3.heap.size := by omega
      have hlt5 : w.heap.size < W5.heap.size := by omega
      clear hN hW5 t0 t2 B7 B15 B20 w7 w15 w20 HB35 HF HW HB HB3
      have hc : form = 0 ∨ form = 1 ∨ form = 2 ∨ form = 3 ∨ form = 4 ∨ form = 5 ∨ form = 6 ∨ form = 7 ∨ form = 8 ∨ form = 9 ∨ form = 10 := by omega
      clear f0 f1
      rcases hc with rfl | rfl | rfl | rfl | rfl | rfl | rfl | rfl | rfl | rfl | rfl
      · have E : a7 = dr ∧ 0 = d1 ∧ 0 = d2 ∧ wrap32 (x - x % 4096) = di := by
          obtain ⟨q1, q2, q3, q4, q5⟩ := EQD.out
          obtain ⟨p1, p2, p3⟩ := HA.out
          rw [q5] at q1 q2 q3 q4
          simp [fmR, rdF, rs1F, rs2F, getF, hRd, hRs1, hRs2] at q1 q2 q3 q4
          refine ⟨by omega, by omega, by omega, ?_⟩
          first | omega | (unfold wrap32 at *; omega)
        obtain ⟨rfl, rfl, rfl, rfl⟩ := E
        repeat' (first | (with_reducible refine ex_then ?_) | (with_reducible refine ex_norm ?_) | (with_reducible refine ex_eq ?_) | ((with_reducible refine ex_ne ?_ ?_); exact rfl) | (with_reducible refine ex_thenR ?_) | (with_reducible refine ex_inN ?_) | (with_reducible refine ex_inR ?_) | (go_at_call 53; (first | (with_reducible refine (bits_31_1 _ _ h0 h1).mono ?_) | (with_reducible refine (bits_12_8 _ _ h0 h1).mono ?_) | (with_reducible refine (bits_20_1 _ _ h0 h1).mono ?_) | (with_reducible refine (bits_21_10 _ _ h0 h1).mono ?_) | (with_reducible refine (bits_20_12 _ _ h0 h1).mono ?_) | (with_reducible refine (bits_20_5 _ _ h0 h1).mono ?_) | (with_reducible refine (bits_25_7 _ _ h0 h1).mono ?_) | (with_reducible refine (bits_7_5 _ _ h0 h1).mono ?_) | (with_reducible refine (bits_7_1 _ _ h0 h1).mono ?_) | (with_reducible refine (bits_25_6 _ _ h0 h1).mono ?_) | (with_reducible refine (bits_8_4 _ _ h0 h1).mono ?_) ); rintro e w' ⟨rfl, rfl⟩; simp only []) | (go_at_call 57; (first | (rw [HEJ.out]; refine (signed_21 _ _ (by omega) (by omega)).mono ?_) | (rw [HES.out]; refine (signed_12 _ _ (by omega) (by omega)).mono ?_) | (rw [HEB.out]; refine (signed_13 _ _ (by omega) (by omega)).mono ?_) | (refine (signed_12 _ _ (by omega) (by omega)).mono ?_)); rintro e w' ⟨rfl, rfl⟩; simp only []) | go_values | go_skip | go_guarded | go_step | go_upon)
        refine (RP.out _ _ _ _ _ _ (by first | rfl | omega) (by first | rfl | omega) (by first | rfl | omega) (by first | rfl | omega) (by first | rfl | omega)).mono ?_
        rintro e w10 ⟨rfl, hb10⟩
        have k0 := hb10.cell (p := ⟨W3.heap.size, 0, none⟩) (by simp; omega)
        have k1 := hb10.cell (p := ⟨W3.heap.size, 1, none⟩) (by simp; omega)
        have k2 := hb10.cell (p := ⟨W3.heap.size, 2, none⟩) (by simp; omega)
        have k3 := hb10.cell (p := ⟨W3.heap.size, 3, none⟩) (by simp; omega)
        have k4 := hb10.cell (p := ⟨W3.heap.size, 4, none⟩) (by simp; omega)
        simp [go_sem, d0, d1', d2', d3, d4, z0, z1, z2, z3, z4, hz5] at k0 k1 k2 k3 k4
        have HF10 : Aside0 (RowsAt w10 g) := ⟨through HF5.out.1 HF5.out.2 (by repeat (first | exact Below.refl _ _ | refine below_set ?_)) hb10 (by have := HF5.out.2; first | omega | (simp; omega))⟩
        have hW10 : w10.heap[w.heap.size]? = some (.cells #[Value.int IntKind.u8 0, Value.int IntKind.u8 0, Value.int IntKind.u8 0, Value.int IntKind.u8 0, Value.int IntKind.i32 0] 40 (0, 0)) := through HW5.out.1 HW5.out.2 (by repeat (first | exact Below.refl _ _ | refine below_set ?_)) hb10 (by first | omega | (simp; omega))
        have HB10 : Aside0 (Below w.heap.size w w10) := ⟨below_through HB05.out (by repeat (first | exact Below.refl _ _ | refine below_set ?_)) (Nat.le_of_lt HW5.out.2) hb10 (by first | omega | (simp; omega))⟩
        have hlt10 : w.heap.size < w10.heap.size := block_lt hW10
        have HW10 := Aside0.mk hW10
        clear hb10 hW10 d0 d1' d2' d3 d4 z0 z1 z2 z3 z4 s0 s2
        rcases HEC.out with ⟨rfl, hjl⟩ | ⟨rfl, hvx, hjl⟩ | ⟨rfl, hvx, rfl, hJ68⟩
        · simp only []
          go_wp2
          refine ⟨⟨j + 1, by go_num, ⟨hjl⟩, HF10, HB10, ⟨⟨HW10.out, hlt10⟩⟩⟩, by simp [intOf]; omega⟩
        · have t : (v == x) = false := by simpa using hvx
          simp only []
          go_wp2
          refine ⟨⟨j + 1, by go_num, ⟨hjl⟩, HF10, HB10, ⟨⟨HW10.out, hlt10⟩⟩⟩, by simp [intOf]; omega⟩
        · have hxv := hvx.symm
          subst hxv
          have c0 := cell_of_block HW10.out 0
          have c1 := cell_of_block HW10.out 1
          have c2 := cell_of_block HW10.out 2
          have c3 := cell_of_block HW10.out 3
          have c4 := cell_of_block HW10.out 4
          simp at c0 c1 c2 c3 c4
          have f0 := free_of_block HW10.out 0
          have f1 := free_of_block HW10.out 1
          have f2 := free_of_block HW10.out 2
          have f3' := free_of_block HW10.out 3
          have f4 := free_of_block HW10.out 4
          simp only []
          go_wp2
          refine bodyPost_ret (v := .tuple #[.agg #[.int .u8 ((j : Int) + 1), .int .u8 (a7), .int .u8 (0), .int .u8 (0), .int .i32 (wrap32 (x - x % 4096))], .int .i64 0]) (by simp [results, Try.results28, go_sem, hlt10, c0, c1, c2, c3, c4, f0, f1, f2, f3', f4]) rfl ⟨?_, ?_⟩
          · rw [HR.out, if_pos hJ68, HD.out]; rfl
          · first
            | exact (((((HB10.out.setCell (Nat.le_refl _) _).setCell (Nat.le_refl _) _).setCell (Nat.le_refl _) _).setCell (Nat.le_refl _) _).setCell (Nat.le_refl _) _)
            | exact below_drew (((((HB10.out.setCell (Nat.le_refl _) _).setCell (Nat.le_refl _) _).setCell (Nat.le_refl _) _).setCell (Nat.le_refl _) _).setCell (Nat.le_refl _) _)
      · have E : a7 = dr ∧ 0 = d1 ∧ 0 = d2 ∧ (x / 2147483648 % 2 * 1048576 + x / 4096 % 256 * 4096 + x / 1048576 % 2 * 2048 + x / 2097152 % 1024 * 2 + 1048576) % (2 * 1048576) - 1048576 = di := by
          obtain ⟨q1, q2, q3, q4, q5⟩ := EQD.out
          obtain ⟨p1, p2, p3⟩ := HA.out
          rw [q5] at q1 q2 q3 q4
          simp [fmR, rdF, rs1F, rs2F, getF, hRd, hRs1, hRs2] at q1 q2 q3 q4
          refine ⟨by omega, by omega, by omega, ?_⟩
          first | omega | (unfold wrap32 at *; omega)
        obtain ⟨rfl, rfl, rfl, rfl⟩ := E
        repeat' (first | (with_reducible refine ex_then ?_) | (with_reducible refine ex_norm ?_) | (with_reducible refine ex_eq ?_) | ((with_reducible refine ex_ne ?_ ?_); exact rfl) | (with_reducible refine ex_thenR ?_) | (with_reducible refine ex_inN ?_) | (with_reducible refine ex_inR ?_) | (go_at_call 53; (first | (with_reducible refine (bits_31_1 _ _ h0 h1).mono ?_) | (with_reducible refine (bits_12_8 _ _ h0 h1).mono ?_) | (with_reducible refine (bits_20_1 _ _ h0 h1).mono ?_) | (with_reducible refine (bits_21_10 _ _ h0 h1).mono ?_) | (with_reducible refine (bits_20_12 _ _ h0 h1).mono ?_) | (with_reducible refine (bits_20_5 _ _ h0 h1).mono ?_) | (with_reducible refine (bits_25_7 _ _ h0 h1).mono ?_) | (with_reducible refine (bits_7_5 _ _ h0 h1).mono ?_) | (with_reducible refine (bits_7_1 _ _ h0 h1).mono ?_) | (with_reducible refine (bits_25_6 _ _ h0 h1).mono ?_) | (with_reducible refine (bits_8_4 _ _ h0 h1).mono ?_) ); rintro e w' ⟨rfl, rfl⟩; simp only []) | (go_at_call 57; (first | (rw [HEJ.out]; refine (signed_21 _ _ (by omega) (by omega)).mono ?_) | (rw [HES.out]; refine (signed_12 _ _ (by omega) (by omega)).mono ?_) | (rw [HEB.out]; refine (signed_13 _ _ (by omega) (by omega)).mono ?_) | (refine (signed_12 _ _ (by omega) (by omega)).mono ?_)); rintro e w' ⟨rfl, rfl⟩; simp only []) | go_values | go_skip | go_guarded | go_step | go_upon)
        refine (RP.out _ _ _ _ _ _ (by first | rfl | omega) (by first | rfl | omega) (by first | rfl | omega) (by first | rfl | omega) (by first | rfl | omega)).mono ?_
        rintro e w10 ⟨rfl, hb10⟩
        have k0 := hb10.cell (p := ⟨W3.heap.size, 0, none⟩) (by simp; omega)
        have k1 := hb10.cell (p := ⟨W3.heap.size, 1, none⟩) (by simp; omega)
        have k2 := hb10.cell (p := ⟨W3.heap.size, 2, none⟩) (by simp; omega)
        have k3 := hb10.cell (p := ⟨W3.heap.size, 3, none⟩) (by simp; omega)
        have k4 := hb10.cell (p := ⟨W3.heap.size, 4, none⟩) (by simp; omega)
        simp [go_sem, d0, d1', d2', d3, d4, z0, z1, z2, z3, z4, hz5] at k0 k1 k2 k3 k4
        have HF10 : Aside0 (RowsAt w10 g) := ⟨through HF5.out.1 HF5.out.2 (by repeat (first | exact Below.refl _ _ | refine below_set ?_)) hb10 (by have := HF5.out.2; first | omega | (simp; omega))⟩
        have hW10 : w10.heap[w.heap.size]? = some (.cells #[Value.int IntKind.u8 0, Value.int IntKind.u8 0, Value.int IntKind.u8 0, Value.int IntKind.u8 0, Value.int IntKind.i32 0] 40 (0, 0)) := through HW5.out.1 HW5.out.2 (by repeat (first | exact Below.refl _ _ | refine below_set ?_)) hb10 (by first | omega | (simp; omega))
        have HB10 : Aside0 (Below w.heap.size w w10) := ⟨below_through HB05.out (by repeat (first | exact Below.refl _ _ | refine below_set ?_)) (Nat.le_of_lt HW5.out.2) hb10 (by first | omega | (simp; omega))⟩
        have hlt10 : w.heap.size < w10.heap.size := block_lt hW10
        have HW10 := Aside0.mk hW10
        clear hb10 hW10 d0 d1' d2' d3 d4 z0 z1 z2 z3 z4 s0 s2
        rcases HEC.out with ⟨rfl, hjl⟩ | ⟨rfl, hvx, hjl⟩ | ⟨rfl, hvx, rfl, hJ68⟩
        · simp only []
          go_wp2
          refine ⟨⟨j + 1, by go_num, ⟨hjl⟩, HF10, HB10, ⟨⟨HW10.out, hlt10⟩⟩⟩, by simp [intOf]; omega⟩
        · have t : (v == x) = false := by simpa using hvx
          simp only []
          go_wp2
          refine ⟨⟨j + 1, by go_num, ⟨hjl⟩, HF10, HB10, ⟨⟨HW10.out, hlt10⟩⟩⟩, by simp [intOf]; omega⟩
        · have hxv := hvx.symm
          subst hxv
          have c0 := cell_of_block HW10.out 0
          have c1 := cell_of_block HW10.out 1
          have c2 := cell_of_block HW10.out 2
          have c3 := cell_of_block HW10.out 3
          have c4 := cell_of_block HW10.out 4
          simp at c0 c1 c2 c3 c4
          have f0 := free_of_block HW10.out 0
          have f1 := free_of_block HW10.out 1
          have f2 := free_of_block HW10.out 2
          have f3' := free_of_block HW10.out 3
          have f4 := free_of_block HW10.out 4
          simp only []
          go_wp2
          refine bodyPost_ret (v := .tuple #[.agg #[.int .u8 ((j : Int) + 1), .int .u8 (a7), .int .u8 (0), .int .u8 (0), .int .i32 ((x / 2147483648 % 2 * 1048576 + x / 4096 % 256 * 4096 + x / 1048576 % 2 * 2048 + x / 2097152 % 1024 * 2 + 1048576) % (2 * 1048576) - 1048576)], .int .i64 0]) (by simp [results, Try.results28, go_sem, hlt10, c0, c1, c2, c3, c4, f0, f1, f2, f3', f4]) rfl ⟨?_, ?_⟩
          · rw [HR.out, if_pos hJ68, HD.out]; rfl
          · first
            | exact (((((HB10.out.setCell (Nat.le_refl _) _).setCell (Nat.le_refl _) _).setCell (Nat.le_refl _) _).setCell (Nat.le_refl _) _).setCell (Nat.le_refl _) _)
            | exact below_drew (((((HB10.out.setCell (Nat.le_refl _) _).setCell (Nat.le_refl _) _).setCell (Nat.le_refl _) _).setCell (Nat.le_refl _) _).setCell (Nat.le_refl _) _)
      · have E : a7 = dr ∧ a15 = d1 ∧ 0 = d2 ∧ (x / 1048576 % 4096 + 2048) % (2 * 2048) - 2048 = di := by
          obtain ⟨q1, q2, q3, q4, q5⟩ := EQD.out
          obtain ⟨p1, p2, p3⟩ := HA.out
          rw [q5] at q1 q2 q3 q4
          simp [fmR, rdF, rs1F, rs2F, getF, hRd, hRs1, hRs2] at q1 q2 q3 q4
          refine ⟨by omega, by omega, by omega, ?_⟩
          first | omega | (unfold wrap32 at *; omega)
        obtain ⟨rfl, rfl, rfl, rfl⟩ := E
        repeat' (first | (with_reducible refine ex_then ?_) | (with_reducible refine ex_norm ?_) | (with_reducible refine ex_eq ?_) | ((with_reducible refine ex_ne ?_ ?_); exact rfl) | (with_reducible refine ex_thenR ?_) | (with_reducible refine ex_inN ?_) | (with_reducible refine ex_inR ?_) | (go_at_call 53; (first | (with_reducible refine (bits_31_1 _ _ h0 h1).mono ?_) | (with_reducible refine (bits_12_8 _ _ h0 h1).mono ?_) | (with_reducible refine (bits_20_1 _ _ h0 h1).mono ?_) | (with_reducible refine (bits_21_10 _ _ h0 h1).mono ?_) | (with_reducible refine (bits_20_12 _ _ h0 h1).mono ?_) | (with_reducible refine (bits_20_5 _ _ h0 h1).mono ?_) | (with_reducible refine (bits_25_7 _ _ h0 h1).mono ?_) | (with_reducible refine (bits_7_5 _ _ h0 h1).mono ?_) | (with_reducible refine (bits_7_1 _ _ h0 h1).mono ?_) | (with_reducible refine (bits_25_6 _ _ h0 h1).mono ?_) | (with_reducible refine (bits_8_4 _ _ h0 h1).mono ?_) ); rintro e w' ⟨rfl, rfl⟩; simp only []) | (go_at_call 57; (first | (rw [HEJ.out]; refine (signed_21 _ _ (by omega) (by omega)).mono ?_) | (rw [HES.out]; refine (signed_12 _ _ (by omega) (by omega)).mono ?_) | (rw [HEB.out]; refine (signed_13 _ _ (by omega) (by omega)).mono ?_) | (refine (signed_12 _ _ (by omega) (by omega)).mono ?_)); rintro e w' ⟨rfl, rfl⟩; simp only []) | go_values | go_skip | go_guarded | go_step | go_upon)
        refine (RP.out _ _ _ _ _ _ (by first | rfl | omega) (by first | rfl | omega) (by first | rfl | omega) (by first | rfl | omega) (by first | rfl | omega)).mono ?_
        rintro e w10 ⟨rfl, hb10⟩
        have k0 := hb10.cell (p := ⟨W3.heap.size, 0, none⟩) (by simp; omega)
        have k1 := hb10.cell (p := ⟨W3.heap.size, 1, none⟩) (by simp; omega)
        have k2 := hb10.cell (p := ⟨W3.heap.size, 2, none⟩) (by simp; omega)
        have k3 := hb10.cell (p := ⟨W3.heap.size, 3, none⟩) (by simp; omega)
        have k4 := hb10.cell (p := ⟨W3.heap.size, 4, none⟩) (by simp; omega)
        simp [go_sem, d0, d1', d2', d3, d4, z0, z1, z2, z3, z4, hz5] at k0 k1 k2 k3 k4
        have HF10 : Aside0 (RowsAt w10 g) := ⟨through HF5.out.1 HF5.out.2 (by repeat (first | exact Below.refl _ _ | refine below_set ?_)) hb10 (by have := HF5.out.2; first | omega | (simp; omega))⟩
        have hW10 : w10.heap[w.heap.size]? = some (.cells #[Value.int IntKind.u8 0, Value.int IntKind.u8 0, Value.int IntKind.u8 0, Value.int IntKind.u8 0, Value.int IntKind.i32 0] 40 (0, 0)) := through HW5.out.1 HW5.out.2 (by repeat (first | exact Below.refl _ _ | refine below_set ?_)) hb10 (by first | omega | (simp; omega))
        have HB10 : Aside0 (Below w.heap.size w w10) := ⟨below_through HB05.out (by repeat (first | exact Below.refl _ _ | refine below_set ?_)) (Nat.le_of_lt HW5.out.2) hb10 (by first | omega | (simp; omega))⟩
        have hlt10 : w.heap.size < w10.heap.size := block_lt hW10
        have HW10 := Aside0.mk hW10
        clear hb10 hW10 d0 d1' d2' d3 d4 z0 z1 z2 z3 z4 s0 s2
        rcases HEC.out with ⟨rfl, hjl⟩ | ⟨rfl, hvx, hjl⟩ | ⟨rfl, hvx, rfl, hJ68⟩
        · simp only []
          go_wp2
          refine ⟨⟨j + 1, by go_num, ⟨hjl⟩, HF10, HB10, ⟨⟨HW10.out, hlt10⟩⟩⟩, by simp [intOf]; omega⟩
        · have t : (v == x) = false := by simpa using hvx
          simp only []
          go_wp2
          refine ⟨⟨j + 1, by go_num, ⟨hjl⟩, HF10, HB10, ⟨⟨HW10.out, hlt10⟩⟩⟩, by simp [intOf]; omega⟩
        · have hxv := hvx.symm
          subst hxv
          have c0 := cell_of_block HW10.out 0
          have c1 := cell_of_block HW10.out 1
          have c2 := cell_of_block HW10.out 2
          have c3 := cell_of_block HW10.out 3
          have c4 := cell_of_block HW10.out 4
          simp at c0 c1 c2 c3 c4
          have f0 := free_of_block HW10.out 0
          have f1 := free_of_block HW10.out 1
          have f2 := free_of_block HW10.out 2
          have f3' := free_of_block HW10.out 3
          have f4 := free_of_block HW10.out 4
          simp only []
          go_wp2
          refine bodyPost_ret (v := .tuple #[.agg #[.int .u8 ((j : Int) + 1), .int .u8 (a7), .int .u8 (a15), .int .u8 (0), .int .i32 ((x / 1048576 % 4096 + 2048) % (2 * 2048) - 2048)], .int .i64 0]) (by simp [results, Try.results28, go_sem, hlt10, c0, c1, c2, c3, c4, f0, f1, f2, f3', f4]) rfl ⟨?_, ?_⟩
          · rw [HR.out, if_pos hJ68, HD.out]; rfl
          · first
            | exact (((((HB10.out.setCell (Nat.le_refl _) _).setCell (Nat.le_refl _) _).setCell (Nat.le_refl _) _).setCell (Nat.le_refl _) _).setCell (Nat.le_refl _) _)
            | exact below_drew (((((HB10.out.setCell (Nat.le_refl _) _).setCell (Nat.le_refl _) _).setCell (Nat.le_refl _) _).setCell (Nat.le_refl _) _).setCell (Nat.le_refl _) _)
      · have E : a7 = dr ∧ a15 = d1 ∧ 0 = d2 ∧ x / 1048576 % 4096 = di := by
          obtain ⟨q1, q2, q3, q4, q5⟩ := EQD.out
          obtain ⟨p1, p2, p3⟩ := HA.out
          rw [q5] at q1 q2 q3 q4
          simp [fmR, rdF, rs1F, rs2F, getF, hRd, hRs1, hRs2] at q1 q2 q3 q4
          refine ⟨by omega, by omega, by omega, ?_⟩
          first | omega | (unfold wrap32 at *; omega)
        obtain ⟨rfl, rfl, rfl, rfl⟩ := E
        repeat' (first | (with_reducible refine ex_then ?_) | (with_reducible refine ex_norm ?_) | (with_reducible refine ex_eq ?_) | ((with_reducible refine ex_ne ?_ ?_); exact rfl) | (with_reducible refine ex_thenR ?_) | (with_reducible refine ex_inN ?_) | (with_reducible refine ex_inR ?_) | (go_at_call 53; (first | (with_reducible refine (bits_31_1 _ _ h0 h1).mono ?_) | (with_reducible refine (bits_12_8 _ _ h0 h1).mono ?_) | (with_reducible refine (bits_20_1 _ _ h0 h1).mono ?_) | (with_reducible refine (bits_21_10 _ _ h0 h1).mono ?_) | (with_reducible refine (bits_20_12 _ _ h0 h1).mono ?_) | (with_reducible refine (bits_20_5 _ _ h0 h1).mono ?_) | (with_reducible refine (bits_25_7 _ _ h0 h1).mono ?_) | (with_reducible refine (bits_7_5 _ _ h0 h1).mono ?_) | (with_reducible refine (bits_7_1 _ _ h0 h1).mono ?_) | (with_reducible refine (bits_25_6 _ _ h0 h1).mono ?_) | (with_reducible refine (bits_8_4 _ _ h0 h1).mono ?_) ); rintro e w' ⟨rfl, rfl⟩; simp only []) | (go_at_call 57; (first | (rw [HEJ.out]; refine (signed_21 _ _ (by omega) (by omega)).mono ?_) | (rw [HES.out]; refine (signed_12 _ _ (by omega) (by omega)).mono ?_) | (rw [HEB.out]; refine (signed_13 _ _ (by omega) (by omega)).mono ?_) | (refine (signed_12 _ _ (by omega) (by omega)).mono ?_)); rintro e w' ⟨rfl, rfl⟩; simp only []) | go_values | go_skip | go_guarded | go_step | go_upon)
        refine (RP.out _ _ _ _ _ _ (by first | rfl | omega) (by first | rfl | omega) (by first | rfl | omega) (by first | rfl | omega) (by first | rfl | omega)).mono ?_
        rintro e w10 ⟨rfl, hb10⟩
        have k0 := hb10.cell (p := ⟨W3.heap.size, 0, none⟩) (by simp; omega)
        have k1 := hb10.cell (p := ⟨W3.heap.size, 1, none⟩) (by simp; omega)
        have k2 := hb10.cell (p := ⟨W3.heap.size, 2, none⟩) (by simp; omega)
        have k3 := hb10.cell (p := ⟨W3.heap.size, 3, none⟩) (by simp; omega)
        have k4 := hb10.cell (p := ⟨W3.heap.size, 4, none⟩) (by simp; omega)
        simp [go_sem, d0, d1', d2', d3, d4, z0, z1, z2, z3, z4, hz5] at k0 k1 k2 k3 k4
        have HF10 : Aside0 (RowsAt w10 g) := ⟨through HF5.out.1 HF5.out.2 (by repeat (first | exact Below.refl _ _ | refine below_set ?_)) hb10 (by have := HF5.out.2; first | omega | (simp; omega))⟩
        have hW10 : w10.heap[w.heap.size]? = some (.cells #[Value.int IntKind.u8 0, Value.int IntKind.u8 0, Value.int IntKind.u8 0, Value.int IntKind.u8 0, Value.int IntKind.i32 0] 40 (0, 0)) := through HW5.out.1 HW5.out.2 (by repeat (first | exact Below.refl _ _ | refine below_set ?_)) hb10 (by first | omega | (simp; omega))
        have HB10 : Aside0 (Below w.heap.size w w10) := ⟨below_through HB05.out (by repeat (first | exact Below.refl _ _ | refine below_set ?_)) (Nat.le_of_lt HW5.out.2) hb10 (by first | omega | (simp; omega))⟩
        have hlt10 : w.heap.size < w10.heap.size := block_lt hW10
        have HW10 := Aside0.mk hW10
        clear hb10 hW10 d0 d1' d2' d3 d4 z0 z1 z2 z3 z4 s0 s2
        rcases HEC.out with ⟨rfl, hjl⟩ | ⟨rfl, hvx, hjl⟩ | ⟨rfl, hvx, rfl, hJ68⟩
        · simp only []
          go_wp2
          refine ⟨⟨j + 1, by go_num, ⟨hjl⟩, HF10, HB10, ⟨⟨HW10.out, hlt10⟩⟩⟩, by simp [intOf]; omega⟩
        · have t : (v == x) = false := by simpa using hvx
          simp only []
          go_wp2
          refine ⟨⟨j + 1, by go_num, ⟨hjl⟩, HF10, HB10, ⟨⟨HW10.out, hlt10⟩⟩⟩, by simp [intOf]; omega⟩
        · have hxv := hvx.symm
          subst hxv
          have c0 := cell_of_block HW10.out 0
          have c1 := cell_of_block HW10.out 1
          have c2 := cell_of_block HW10.out 2
          have c3 := cell_of_block HW10.out 3
          have c4 := cell_of_block HW10.out 4
          simp at c0 c1 c2 c3 c4
          have f0 := free_of_block HW10.out 0
          have f1 := free_of_block HW10.out 1
          have f2 := free_of_block HW10.out 2
          have f3' := free_of_block HW10.out 3
          have f4 := free_of_block HW10.out 4
          simp only []
          go_wp2
          refine bodyPost_ret (v := .tuple #[.agg #[.int .u8 ((j : Int) + 1), .int .u8 (a7), .int .u8 (a15), .int .u8 (0), .int .i32 (x / 1048576 % 4096)], .int .i64 0]) (by simp [results, Try.results28, go_sem, hlt10, c0, c1, c2, c3, c4, f0, f1, f2, f3', f4]) rfl ⟨?_, ?_⟩
          · rw [HR.out, if_pos hJ68, HD.out]; rfl
          · first
            | exact (((((HB10.out.setCell (Nat.le_refl _) _).setCell (Nat.le_refl _) _).setCell (Nat.le_refl _) _).setCell (Nat.le_refl _) _).setCell (Nat.le_refl _) _)
            | exact below_drew (((((HB10.out.setCell (Nat.le_refl _) _).setCell (Nat.le_refl _) _).setCell (Nat.le_refl _) _).setCell (Nat.le_refl _) _).setCell (Nat.le_refl _) _)
      · have E : a7 = dr ∧ a15 = d1 ∧ 0 = d2 ∧ x / 1048576 % 32 = di := by
          obtain ⟨q1, q2, q3, q4, q5⟩ := EQD.out
          obtain ⟨p1, p2, p3⟩ := HA.out
          rw [q5] at q1 q2 q3 q4
          simp [fmR, rdF, rs1F, rs2F, getF, hRd, hRs1, hRs2] at q1 q2 q3 q4
          refine ⟨by omega, by omega, by omega, ?_⟩
          first | omega | (unfold wrap32 at *; omega)
        obtain ⟨rfl, rfl, rfl, rfl⟩ := E
        repeat' (first | (with_reducible refine ex_then ?_) | (with_reducible refine ex_norm ?_) | (with_reducible refine ex_eq ?_) | ((with_reducible refine ex_ne ?_ ?_); exact rfl) | (with_reducible refine ex_thenR ?_) | (with_reducible refine ex_inN ?_) | (with_reducible refine ex_inR ?_) | (go_at_call 53; (first | (with_reducible refine (bits_31_1 _ _ h0 h1).mono ?_) | (with_reducible refine (bits_12_8 _ _ h0 h1).mono ?_) | (with_reducible refine (bits_20_1 _ _ h0 h1).mono ?_) | (with_reducible refine (bits_21_10 _ _ h0 h1).mono ?_) | (with_reducible refine (bits_20_12 _ _ h0 h1).mono ?_) | (with_reducible refine (bits_20_5 _ _ h0 h1).mono ?_) | (with_reducible refine (bits_25_7 _ _ h0 h1).mono ?_) | (with_reducible refine (bits_7_5 _ _ h0 h1).mono ?_) | (with_reducible refine (bits_7_1 _ _ h0 h1).mono ?_) | (with_reducible refine (bits_25_6 _ _ h0 h1).mono ?_) | (with_reducible refine (bits_8_4 _ _ h0 h1).mono ?_) ); rintro e w' ⟨rfl, rfl⟩; simp only []) | (go_at_call 57; (first | (rw [HEJ.out]; refine (signed_21 _ _ (by omega) (by omega)).mono ?_) | (rw [HES.out]; refine (signed_12 _ _ (by omega) (by omega)).mono ?_) | (rw [HEB.out]; refine (signed_13 _ _ (by omega) (by omega)).mono ?_) | (refine (signed_12 _ _ (by omega) (by omega)).mono ?_)); rintro e w' ⟨rfl, rfl⟩; simp only []) | go_values | go_skip | go_guarded | go_step | go_upon)
        refine (RP.out _ _ _ _ _ _ (by first | rfl | omega) (by first | rfl | omega) (by first | rfl | omega) (by first | rfl | omega) (by first | rfl | omega)).mono ?_
        rintro e w10 ⟨rfl, hb10⟩
        have k0 := hb10.cell (p := ⟨W3.heap.size, 0, none⟩) (by simp; omega)
        have k1 := hb10.cell (p := ⟨W3.heap.size, 1, none⟩) (by simp; omega)
        have k2 := hb10.cell (p := ⟨W3.heap.size, 2, none⟩) (by simp; omega)
        have k3 := hb10.cell (p := ⟨W3.heap.size, 3, none⟩) (by simp; omega)
        have k4 := hb10.cell (p := ⟨W3.heap.size, 4, none⟩) (by simp; omega)
        simp [go_sem, d0, d1', d2', d3, d4, z0, z1, z2, z3, z4, hz5] at k0 k1 k2 k3 k4
        have HF10 : Aside0 (RowsAt w10 g) := ⟨through HF5.out.1 HF5.out.2 (by repeat (first | exact Below.refl _ _ | refine below_set ?_)) hb10 (by have := HF5.out.2; first | omega | (simp; omega))⟩
        have hW10 : w10.heap[w.heap.size]? = some (.cells #[Value.int IntKind.u8 0, Value.int IntKind.u8 0, Value.int IntKind.u8 0, Value.int IntKind.u8 0, Value.int IntKind.i32 0] 40 (0, 0)) := through HW5.out.1 HW5.out.2 (by repeat (first | exact Below.refl _ _ | refine below_set ?_)) hb10 (by first | omega | (simp; omega))
        have HB10 : Aside0 (Below w.heap.size w w10) := ⟨below_through HB05.out (by repeat (first | exact Below.refl _ _ | refine below_set ?_)) (Nat.le_of_lt HW5.out.2) hb10 (by first | omega | (simp; omega))⟩
        have hlt10 : w.heap.size < w10.heap.size := block_lt hW10
        have HW10 := Aside0.mk hW10
        clear hb10 hW10 d0 d1' d2' d3 d4 z0 z1 z2 z3 z4 s0 s2
        rcases HEC.out with ⟨rfl, hjl⟩ | ⟨rfl, hvx, hjl⟩ | ⟨rfl, hvx, rfl, hJ68⟩
        · simp only []
          go_wp2
          refine ⟨⟨j + 1, by go_num, ⟨hjl⟩, HF10, HB10, ⟨⟨HW10.out, hlt10⟩⟩⟩, by simp [intOf]; omega⟩
        · have t : (v == x) = false := by simpa using hvx
          simp only []
          go_wp2
          refine ⟨⟨j + 1, by go_num, ⟨hjl⟩, HF10, HB10, ⟨⟨HW10.out, hlt10⟩⟩⟩, by simp [intOf]; omega⟩
        · have hxv := hvx.symm
          subst hxv
          have c0 := cell_of_block HW10.out 0
          have c1 := cell_of_block HW10.out 1
          have c2 := cell_of_block HW10.out 2
          have c3 := cell_of_block HW10.out 3
          have c4 := cell_of_block HW10.out 4
          simp at c0 c1 c2 c3 c4
          have f0 := free_of_block HW10.out 0
          have f1 := free_of_block HW10.out 1
          have f2 := free_of_block HW10.out 2
          have f3' := free_of_block HW10.out 3
          have f4 := free_of_block HW10.out 4
          simp only []
          go_wp2
          refine bodyPost_ret (v := .tuple #[.agg #[.int .u8 ((j : Int) + 1), .int .u8 (a7), .int .u8 (a15), .int .u8 (0), .int .i32 (x / 1048576 % 32)], .int .i64 0]) (by simp [results, Try.results28, go_sem, hlt10, c0, c1, c2, c3, c4, f0, f1, f2, f3', f4]) rfl ⟨?_, ?_⟩
          · rw [HR.out, if_pos hJ68, HD.out]; rfl
          · first
            | exact (((((HB10.out.setCell (Nat.le_refl _) _).setCell (Nat.le_refl _) _).setCell (Nat.le_refl _) _).setCell (Nat.le_refl _) _).setCell (Nat.le_refl _) _)
            | exact below_drew (((((HB10.out.setCell (Nat.le_refl _) _).setCell (Nat.le_refl _) _).setCell (Nat.le_refl _) _).setCell (Nat.le_refl _) _).setCell (Nat.le_refl _) _)
      · have E : 0 = dr ∧ a15 = d1 ∧ a20 = d2 ∧ (x / 33554432 % 128 * 32 + x / 128 % 32 + 2048) % (2 * 2048) - 2048 = di := by
          obtain ⟨q1, q2, q3, q4, q5⟩ := EQD.out
          obtain ⟨p1, p2, p3⟩ := HA.out
          rw [q5] at q1 q2 q3 q4
          simp [fmR, rdF, rs1F, rs2F, getF, hRd, hRs1, hRs2] at q1 q2 q3 q4
          refine ⟨by omega, by omega, by omega, ?_⟩
          first | omega | (unfold wrap32 at *; omega)
        obtain ⟨rfl, rfl, rfl, rfl⟩ := E
        repeat' (first | (with_reducible refine ex_then ?_) | (with_reducible refine ex_norm ?_) | (with_reducible refine ex_eq ?_) | ((with_reducible refine ex_ne ?_ ?_); exact rfl) | (with_reducible refine ex_thenR ?_) | (with_reducible refine ex_inN ?_) | (with_reducible refine ex_inR ?_) | (go_at_call 53; (first | (with_reducible refine (bits_31_1 _ _ h0 h1).mono ?_) | (with_reducible refine (bits_12_8 _ _ h0 h1).mono ?_) | (with_reducible refine (bits_20_1 _ _ h0 h1).mono ?_) | (with_reducible refine (bits_21_10 _ _ h0 h1).mono ?_) | (with_reducible refine (bits_20_12 _ _ h0 h1).mono ?_) | (with_reducible refine (bits_20_5 _ _ h0 h1).mono ?_) | (with_reducible refine (bits_25_7 _ _ h0 h1).mono ?_) | (with_reducible refine (bits_7_5 _ _ h0 h1).mono ?_) | (with_reducible refine (bits_7_1 _ _ h0 h1).mono ?_) | (with_reducible refine (bits_25_6 _ _ h0 h1).mono ?_) | (with_reducible refine (bits_8_4 _ _ h0 h1).mono ?_) ); rintro e w' ⟨rfl, rfl⟩; simp only []) | (go_at_call 57; (first | (rw [HEJ.out]; refine (signed_21 _ _ (by omega) (by omega)).mono ?_) | (rw [HES.out]; refine (signed_12 _ _ (by omega) (by omega)).mono ?_) | (rw [HEB.out]; refine (signed_13 _ _ (by omega) (by omega)).mono ?_) | (refine (signed_12 _ _ (by omega) (by omega)).mono ?_)); rintro e w' ⟨rfl, rfl⟩; simp only []) | go_values | go_skip | go_guarded | go_step | go_upon)
        refine (RP.out _ _ _ _ _ _ (by first | rfl | omega) (by first | rfl | omega) (by first | rfl | omega) (by first | rfl | omega) (by first | rfl | omega)).mono ?_
        rintro e w10 ⟨rfl, hb10⟩
        have k0 := hb10.cell (p := ⟨W3.heap.size, 0, none⟩) (by simp; omega)
        have k1 := hb10.cell (p := ⟨W3.heap.size, 1, none⟩) (by simp; omega)
        have k2 := hb10.cell (p := ⟨W3.heap.size, 2, none⟩) (by simp; omega)
        have k3 := hb10.cell (p := ⟨W3.heap.size, 3, none⟩) (by simp; omega)
        have k4 := hb10.cell (p := ⟨W3.heap.size, 4, none⟩) (by simp; omega)
        simp [go_sem, d0, d1', d2', d3, d4, z0, z1, z2, z3, z4, hz5] at k0 k1 k2 k3 k4
        have HF10 : Aside0 (RowsAt w10 g) := ⟨through HF5.out.1 HF5.out.2 (by repeat (first | exact Below.refl _ _ | refine below_set ?_)) hb10 (by have := HF5.out.2; first | omega | (simp; omega))⟩
        have hW10 : w10.heap[w.heap.size]? = some (.cells #[Value.int IntKind.u8 0, Value.int IntKind.u8 0, Value.int IntKind.u8 0, Value.int IntKind.u8 0, Value.int IntKind.i32 0] 40 (0, 0)) := through HW5.out.1 HW5.out.2 (by repeat (first | exact Below.refl _ _ | refine below_set ?_)) hb10 (by first | omega | (simp; omega))
        have HB10 : Aside0 (Below w.heap.size w w10) := ⟨below_through HB05.out (by repeat (first | exact Below.refl _ _ | refine below_set ?_)) (Nat.le_of_lt HW5.out.2) hb10 (by first | omega | (simp; omega))⟩
        have hlt10 : w.heap.size < w10.heap.size := block_lt hW10
        have HW10 := Aside0.mk hW10
        clear hb10 hW10 d0 d1' d2' d3 d4 z0 z1 z2 z3 z4 s0 s2
        rcases HEC.out with ⟨rfl, hjl⟩ | ⟨rfl, hvx, hjl⟩ | ⟨rfl, hvx, rfl, hJ68⟩
        · simp only []
          go_wp2
          refine ⟨⟨j + 1, by go_num, ⟨hjl⟩, HF10, HB10, ⟨⟨HW10.out, hlt10⟩⟩⟩, by simp [intOf]; omega⟩
        · have t : (v == x) = false := by simpa using hvx
          simp only []
          go_wp2
          refine ⟨⟨j + 1, by go_num, ⟨hjl⟩, HF10, HB10, ⟨⟨HW10.out, hlt10⟩⟩⟩, by simp [intOf]; omega⟩
        · have hxv := hvx.symm
          subst hxv
          have c0 := cell_of_block HW10.out 0
          have c1 := cell_of_block HW10.out 1
          have c2 := cell_of_block HW10.out 2
          have c3 := cell_of_block HW10.out 3
          have c4 := cell_of_block HW10.out 4
          simp at c0 c1 c2 c3 c4
          have f0 := free_of_block HW10.out 0
          have f1 := free_of_block HW10.out 1
          have f2 := free_of_block HW10.out 2
          have f3' := free_of_block HW10.out 3
          have f4 := free_of_block HW10.out 4
          simp only []
          go_wp2
          refine bodyPost_ret (v := .tuple #[.agg #[.int .u8 ((j : Int) + 1), .int .u8 (0), .int .u8 (a15), .int .u8 (a20), .int .i32 ((x / 33554432 % 128 * 32 + x / 128 % 32 + 2048) % (2 * 2048) - 2048)], .int .i64 0]) (by simp [results, Try.results28, go_sem, hlt10, c0, c1, c2, c3, c4, f0, f1, f2, f3', f4]) rfl ⟨?_, ?_⟩
          · rw [HR.out, if_pos hJ68, HD.out]; rfl
          · first
            | exact (((((HB10.out.setCell (Nat.le_refl _) _).setCell (Nat.le_refl _) _).setCell (Nat.le_refl _) _).setCell (Nat.le_refl _) _).setCell (Nat.le_refl _) _)
            | exact below_drew (((((HB10.out.setCell (Nat.le_refl _) _).setCell (Nat.le_refl _) _).setCell (Nat.le_refl _) _).setCell (Nat.le_refl _) _).setCell (Nat.le_refl _) _)
      · have E : 0 = dr ∧ a15 = d1 ∧ a20 = d2 ∧ (x / 2147483648 % 2 * 4096 + x / 128 % 2 * 2048 + x / 33554432 % 64 * 32 + x / 256 % 16 * 2 + 4096) % (2 * 4096) - 4096 = di := by
          obtain ⟨q1, q2, q3, q4, q5⟩ := EQD.out
          obtain ⟨p1, p2, p3⟩ := HA.out
          rw [q5] at q1 q2 q3 q4
          simp [fmR, rdF, rs1F, rs2F, getF, hRd, hRs1, hRs2] at q1 q2 q3 q4
          refine ⟨by omega, by omega, by omega, ?_⟩
          first | omega | (unfold wrap32 at *; omega)
        obtain ⟨rfl, rfl, rfl, rfl⟩ := E
        repeat' (first | (with_reducible refine ex_then ?_) | (with_reducible refine ex_norm ?_) | (with_reducible refine ex_eq ?_) | ((with_reducible refine ex_ne ?_ ?_); exact rfl) | (with_reducible refine ex_thenR ?_) | (with_reducible refine ex_inN ?_) | (with_reducible refine ex_inR ?_) | (go_at_call 53; (first | (with_reducible refine (bits_31_1 _ _ h0 h1).mono ?_) | (with_reducible refine (bits_12_8 _ _ h0 h1).mono ?_) | (with_reducible refine (bits_20_1 _ _ h0 h1).mono ?_) | (with_reducible refine (bits_21_10 _ _ h0 h1).mono ?_) | (with_reducible refine (bits_20_12 _ _ h0 h1).mono ?_) | (with_reducible refine (bits_20_5 _ _ h0 h1).mono ?_) | (with_reducible refine (bits_25_7 _ _ h0 h1).mono ?_) | (with_reducible refine (bits_7_5 _ _ h0 h1).mono ?_) | (with_reducible refine (bits_7_1 _ _ h0 h1).mono ?_) | (with_reducible refine (bits_25_6 _ _ h0 h1).mono ?_) | (with_reducible refine (bits_8_4 _ _ h0 h1).mono ?_) ); rintro e w' ⟨rfl, rfl⟩; simp only []) | (go_at_call 57; (first | (rw [HEJ.out]; refine (signed_21 _ _ (by omega) (by omega)).mono ?_) | (rw [HES.out]; refine (signed_12 _ _ (by omega) (by omega)).mono ?_) | (rw [HEB.out]; refine (signed_13 _ _ (by omega) (by omega)).mono ?_) | (refine (signed_12 _ _ (by omega) (by omega)).mono ?_)); rintro e w' ⟨rfl, rfl⟩; simp only []) | go_values | go_skip | go_guarded | go_step | go_upon)
        refine (RP.out _ _ _ _ _ _ (by first | rfl | omega) (by first | rfl | omega) (by first | rfl | omega) (by first | rfl | omega) (by first | rfl | omega)).mono ?_
        rintro e w10 ⟨rfl, hb10⟩
        have k0 := hb10.cell (p := ⟨W3.heap.size, 0, none⟩) (by simp; omega)
        have k1 := hb10.cell (p := ⟨W3.heap.size, 1, none⟩) (by simp; omega)
        have k2 := hb10.cell (p := ⟨W3.heap.size, 2, none⟩) (by simp; omega)
        have k3 := hb10.cell (p := ⟨W3.heap.size, 3, none⟩) (by simp; omega)
        have k4 := hb10.cell (p := ⟨W3.heap.size, 4, none⟩) (by simp; omega)
        simp [go_sem, d0, d1', d2', d3, d4, z0, z1, z2, z3, z4, hz5] at k0 k1 k2 k3 k4
        have HF10 : Aside0 (RowsAt w10 g) := ⟨through HF5.out.1 HF5.out.2 (by repeat (first | exact Below.refl _ _ | refine below_set ?_)) hb10 (by have := HF5.out.2; first | omega | (simp; omega))⟩
        have hW10 : w10.heap[w.heap.size]? = some (.cells #[Value.int IntKind.u8 0, Value.int IntKind.u8 0, Value.int IntKind.u8 0, Value.int IntKind.u8 0, Value.int IntKind.i32 0] 40 (0, 0)) := through HW5.out.1 HW5.out.2 (by repeat (first | exact Below.refl _ _ | refine below_set ?_)) hb10 (by first | omega | (simp; omega))
        have HB10 : Aside0 (Below w.heap.size w w10) := ⟨below_through HB05.out (by repeat (first | exact Below.refl _ _ | refine below_set ?_)) (Nat.le_of_lt HW5.out.2) hb10 (by first | omega | (simp; omega))⟩
        have hlt10 : w.heap.size < w10.heap.size := block_lt hW10
        have HW10 := Aside0.mk hW10
        clear hb10 hW10 d0 d1' d2' d3 d4 z0 z1 z2 z3 z4 s0 s2
        rcases HEC.out with ⟨rfl, hjl⟩ | ⟨rfl, hvx, hjl⟩ | ⟨rfl, hvx, rfl, hJ68⟩
        · simp only []
          go_wp2
          refine ⟨⟨j + 1, by go_num, ⟨hjl⟩, HF10, HB10, ⟨⟨HW10.out, hlt10⟩⟩⟩, by simp [intOf]; omega⟩
        · have t : (v == x) = false := by simpa using hvx
          simp only []
          go_wp2
          refine ⟨⟨j + 1, by go_num, ⟨hjl⟩, HF10, HB10, ⟨⟨HW10.out, hlt10⟩⟩⟩, by simp [intOf]; omega⟩
        · have hxv := hvx.symm
          subst hxv
          have c0 := cell_of_block HW10.out 0
          have c1 := cell_of_block HW10.out 1
          have c2 := cell_of_block HW10.out 2
          have c3 := cell_of_block HW10.out 3
          have c4 := cell_of_block HW10.out 4
          simp at c0 c1 c2 c3 c4
          have f0 := free_of_block HW10.out 0
          have f1 := free_of_block HW10.out 1
          have f2 := free_of_block HW10.out 2
          have f3' := free_of_block HW10.out 3
          have f4 := free_of_block HW10.out 4
          simp only []
          go_wp2
          refine bodyPost_ret (v := .tuple #[.agg #[.int .u8 ((j : Int) + 1), .int .u8 (0), .int .u8 (a15), .int .u8 (a20), .int .i32 ((x / 2147483648 % 2 * 4096 + x / 128 % 2 * 2048 + x / 33554432 % 64 * 32 + x / 256 % 16 * 2 + 4096) % (2 * 4096) - 4096)], .int .i64 0]) (by simp [results, Try.results28, go_sem, hlt10, c0, c1, c2, c3, c4, f0, f1, f2, f3', f4]) rfl ⟨?_, ?_⟩
          · rw [HR.out, if_pos hJ68, HD.out]; rfl
          · first
            | exact (((((HB10.out.setCell (Nat.le_refl _) _).setCell (Nat.le_refl _) _).setCell (Nat.le_refl _) _).setCell (Nat.le_refl _) _).setCell (Nat.le_refl _) _)
            | exact below_drew (((((HB10.out.setCell (Nat.le_refl _) _).setCell (Nat.le_refl _) _).setCell (Nat.le_refl _) _).setCell (Nat.le_refl _) _).setCell (Nat.le_refl _) _)
      · have E : a7 = dr ∧ a15 = d1 ∧ a20 = d2 ∧ 0 = di := by
          obtain ⟨q1, q2, q3, q4, q5⟩ := EQD.out
          obtain ⟨p1, p2, p3⟩ := HA.out
          rw [q5] at q1 q2 q3 q4
          simp [fmR, rdF, rs1F, rs2F, getF, hRd, hRs1, hRs2] at q1 q2 q3 q4
          refine ⟨by omega, by omega, by omega, ?_⟩
          first | omega | (unfold wrap32 at *; omega)
        obtain ⟨rfl, rfl, rfl, rfl⟩ := E
        repeat' (first | (with_reducible refine ex_then ?_) | (with_reducible refine ex_norm ?_) | (with_reducible refine ex_eq ?_) | ((with_reducible refine ex_ne ?_ ?_); exact rfl) | (with_reducible refine ex_thenR ?_) | (with_reducible refine ex_inN ?_) | (with_reducible refine ex_inR ?_) | (go_at_call 53; (first | (with_reducible refine (bits_31_1 _ _ h0 h1).mono ?_) | (with_reducible refine (bits_12_8 _ _ h0 h1).mono ?_) | (with_reducible refine (bits_20_1 _ _ h0 h1).mono ?_) | (with_reducible refine (bits_21_10 _ _ h0 h1).mono ?_) | (with_reducible refine (bits_20_12 _ _ h0 h1).mono ?_) | (with_reducible refine (bits_20_5 _ _ h0 h1).mono ?_) | (with_reducible refine (bits_25_7 _ _ h0 h1).mono ?_) | (with_reducible refine (bits_7_5 _ _ h0 h1).mono ?_) | (with_reducible refine (bits_7_1 _ _ h0 h1).mono ?_) | (with_reducible refine (bits_25_6 _ _ h0 h1).mono ?_) | (with_reducible refine (bits_8_4 _ _ h0 h1).mono ?_) ); rintro e w' ⟨rfl, rfl⟩; simp only []) | (go_at_call 57; (first | (rw [HEJ.out]; refine (signed_21 _ _ (by omega) (by omega)).mono ?_) | (rw [HES.out]; refine (signed_12 _ _ (by omega) (by omega)).mono ?_) | (rw [HEB.out]; refine (signed_13 _ _ (by omega) (by omega)).mono ?_) | (refine (signed_12 _ _ (by omega) (by omega)).mono ?_)); rintro e w' ⟨rfl, rfl⟩; simp only []) | go_values | go_skip | go_guarded | go_step | go_upon)
        refine (RP.out _ _ _ _ _ _ (by first | rfl | omega) (by first | rfl | omega) (by first | rfl | omega) (by first | rfl | omega) (by first | rfl | omega)).mono ?_
        rintro e w10 ⟨rfl, hb10⟩
        have k0 := hb10.cell (p := ⟨W3.heap.size, 0, none⟩) (by simp; omega)
        have k1 := hb10.cell (p := ⟨W3.heap.size, 1, none⟩) (by simp; omega)
        have k2 := hb10.cell (p := ⟨W3.heap.size, 2, none⟩) (by simp; omega)
        have k3 := hb10.cell (p := ⟨W3.heap.size, 3, none⟩) (by simp; omega)
        have k4 := hb10.cell (p := ⟨W3.heap.size, 4, none⟩) (by simp; omega)
        simp [go_sem, d0, d1', d2', d3, d4, z0, z1, z2, z3, z4, hz5] at k0 k1 k2 k3 k4
        have HF10 : Aside0 (RowsAt w10 g) := ⟨through HF5.out.1 HF5.out.2 (by repeat (first | exact Below.refl _ _ | refine below_set ?_)) hb10 (by have := HF5.out.2; first | omega | (simp; omega))⟩
        have hW10 : w10.heap[w.heap.size]? = some (.cells #[Value.int IntKind.u8 0, Value.int IntKind.u8 0, Value.int IntKind.u8 0, Value.int IntKind.u8 0, Value.int IntKind.i32 0] 40 (0, 0)) := through HW5.out.1 HW5.out.2 (by repeat (first | exact Below.refl _ _ | refine below_set ?_)) hb10 (by first | omega | (simp; omega))
        have HB10 : Aside0 (Below w.heap.size w w10) := ⟨below_through HB05.out (by repeat (first | exact Below.refl _ _ | refine below_set ?_)) (Nat.le_of_lt HW5.out.2) hb10 (by first | omega | (simp; omega))⟩
        have hlt10 : w.heap.size < w10.heap.size := block_lt hW10
        have HW10 := Aside0.mk hW10
        clear hb10 hW10 d0 d1' d2' d3 d4 z0 z1 z2 z3 z4 s0 s2
        rcases HEC.out with ⟨rfl, hjl⟩ | ⟨rfl, hvx, hjl⟩ | ⟨rfl, hvx, rfl, hJ68⟩
        · simp only []
          go_wp2
          refine ⟨⟨j + 1, by go_num, ⟨hjl⟩, HF10, HB10, ⟨⟨HW10.out, hlt10⟩⟩⟩, by simp [intOf]; omega⟩
        · have t : (v == x) = false := by simpa using hvx
          simp only []
          go_wp2
          refine ⟨⟨j + 1, by go_num, ⟨hjl⟩, HF10, HB10, ⟨⟨HW10.out, hlt10⟩⟩⟩, by simp [intOf]; omega⟩
        · have hxv := hvx.symm
          subst hxv
          have c0 := cell_of_block HW10.out 0
          have c1 := cell_of_block HW10.out 1
          have c2 := cell_of_block HW10.out 2
          have c3 := cell_of_block HW10.out 3
          have c4 := cell_of_block HW10.out 4
          simp at c0 c1 c2 c3 c4
          have f0 := free_of_block HW10.out 0
          have f1 := free_of_block HW10.out 1
          have f2 := free_of_block HW10.out 2
          have f3' := free_of_block HW10.out 3
          have f4 := free_of_block HW10.out 4
          simp only []
          go_wp2
          refine bodyPost_ret (v := .tuple #[.agg #[.int .u8 ((j : Int) + 1), .int .u8 (a7), .int .u8 (a15), .int .u8 (a20), .int .i32 (0)], .int .i64 0]) (by simp [results, Try.results28, go_sem, hlt10, c0, c1, c2, c3, c4, f0, f1, f2, f3', f4]) rfl ⟨?_, ?_⟩
          · rw [HR.out, if_pos hJ68, HD.out]; rfl
          · first
            | exact (((((HB10.out.setCell (Nat.le_refl _) _).setCell (Nat.le_refl _) _).setCell (Nat.le_refl _) _).setCell (Nat.le_refl _) _).setCell (Nat.le_refl _) _)
            | exact below_drew (((((HB10.out.setCell (Nat.le_refl _) _).setCell (Nat.le_refl _) _).setCell (Nat.le_refl _) _).setCell (Nat.le_refl _) _).setCell (Nat.le_refl _) _)
      · have E : a7 = dr ∧ a15 = d1 ∧ 0 = d2 ∧ 0 = di := by
          obtain ⟨q1, q2, q3, q4, q5⟩ := EQD.out
          obtain ⟨p1, p2, p3⟩ := HA.out
          rw [q5] at q1 q2 q3 q4
          simp [fmR, rdF, rs1F, rs2F, getF, hRd, hRs1, hRs2] at q1 q2 q3 q4
          refine ⟨by omega, by omega, by omega, ?_⟩
          first | omega | (unfold wrap32 at *; omega)
        obtain ⟨rfl, rfl, rfl, rfl⟩ := E
        repeat' (first | (with_reducible refine ex_then ?_) | (with_reducible refine ex_norm ?_) | (with_reducible refine ex_eq ?_) | ((with_reducible refine ex_ne ?_ ?_); exact rfl) | (with_reducible refine ex_thenR ?_) | (with_reducible refine ex_inN ?_) | (with_reducible refine ex_inR ?_) | (go_at_call 53; (first | (with_reducible refine (bits_31_1 _ _ h0 h1).mono ?_) | (with_reducible refine (bits_12_8 _ _ h0 h1).mono ?_) | (with_reducible refine (bits_20_1 _ _ h0 h1).mono ?_) | (with_reducible refine (bits_21_10 _ _ h0 h1).mono ?_) | (with_reducible refine (bits_20_12 _ _ h0 h1).mono ?_) | (with_reducible refine (bits_20_5 _ _ h0 h1).mono ?_) | (with_reducible refine (bits_25_7 _ _ h0 h1).mono ?_) | (with_reducible refine (bits_7_5 _ _ h0 h1).mono ?_) | (with_reducible refine (bits_7_1 _ _ h0 h1).mono ?_) | (with_reducible refine (bits_25_6 _ _ h0 h1).mono ?_) | (with_reducible refine (bits_8_4 _ _ h0 h1).mono ?_) ); rintro e w' ⟨rfl, rfl⟩; simp only []) | (go_at_call 57; (first | (rw [HEJ.out]; refine (signed_21 _ _ (by omega) (by omega)).mono ?_) | (rw [HES.out]; refine (signed_12 _ _ (by omega) (by omega)).mono ?_) | (rw [HEB.out]; refine (signed_13 _ _ (by omega) (by omega)).mono ?_) | (refine (signed_12 _ _ (by omega) (by omega)).mono ?_)); rintro e w' ⟨rfl, rfl⟩; simp only []) | go_values | go_skip | go_guarded | go_step | go_upon)
        refine (RP.out _ _ _ _ _ _ (by first | rfl | omega) (by first | rfl | omega) (by first | rfl | omega) (by first | rfl | omega) (by first | rfl | omega)).mono ?_
        rintro e w10 ⟨rfl, hb10⟩
        have k0 := hb10.cell (p := ⟨W3.heap.size, 0, none⟩) (by simp; omega)
        have k1 := hb10.cell (p := ⟨W3.heap.size, 1, none⟩) (by simp; omega)
        have k2 := hb10.cell (p := ⟨W3.heap.size, 2, none⟩) (by simp; omega)
        have k3 := hb10.cell (p := ⟨W3.heap.size, 3, none⟩) (by simp; omega)
        have k4 := hb10.cell (p := ⟨W3.heap.size, 4, none⟩) (by simp; omega)
        simp [go_sem, d0, d1', d2', d3, d4, z0, z1, z2, z3, z4, hz5] at k0 k1 k2 k3 k4
        have HF10 : Aside0 (RowsAt w10 g) := ⟨through HF5.out.1 HF5.out.2 (by repeat (first | exact Below.refl _ _ | refine below_set ?_)) hb10 (by have := HF5.out.2; first | omega | (simp; omega))⟩
        have hW10 : w10.heap[w.heap.size]? = some (.cells #[Value.int IntKind.u8 0, Value.int IntKind.u8 0, Value.int IntKind.u8 0, Value.int IntKind.u8 0, Value.int IntKind.i32 0] 40 (0, 0)) := through HW5.out.1 HW5.out.2 (by repeat (first | exact Below.refl _ _ | refine below_set ?_)) hb10 (by first | omega | (simp; omega))
        have HB10 : Aside0 (Below w.heap.size w w10) := ⟨below_through HB05.out (by repeat (first | exact Below.refl _ _ | refine below_set ?_)) (Nat.le_of_lt HW5.out.2) hb10 (by first | omega | (simp; omega))⟩
        have hlt10 : w.heap.size < w10.heap.size := block_lt hW10
        have HW10 := Aside0.mk hW10
        clear hb10 hW10 d0 d1' d2' d3 d4 z0 z1 z2 z3 z4 s0 s2
        rcases HEC.out with ⟨rfl, hjl⟩ | ⟨rfl, hvx, hjl⟩ | ⟨rfl, hvx, rfl, hJ68⟩
        · simp only []
          go_wp2
          refine ⟨⟨j + 1, by go_num, ⟨hjl⟩, HF10, HB10, ⟨⟨HW10.out, hlt10⟩⟩⟩, by simp [intOf]; omega⟩
        · have t : (v == x) = false := by simpa using hvx
          simp only []
          go_wp2
          refine ⟨⟨j + 1, by go_num, ⟨hjl⟩, HF10, HB10, ⟨⟨HW10.out, hlt10⟩⟩⟩, by simp [intOf]; omega⟩
        · have hxv := hvx.symm
          subst hxv
          have c0 := cell_of_block HW10.out 0
          have c1 := cell_of_block HW10.out 1
          have c2 := cell_of_block HW10.out 2
          have c3 := cell_of_block HW10.out 3
          have c4 := cell_of_block HW10.out 4
          simp at c0 c1 c2 c3 c4
          have f0 := free_of_block HW10.out 0
          have f1 := free_of_block HW10.out 1
          have f2 := free_of_block HW10.out 2
          have f3' := free_of_block HW10.out 3
          have f4 := free_of_block HW10.out 4
          simp only []
          go_wp2
          refine bodyPost_ret (v := .tuple #[.agg #[.int .u8 ((j : Int) + 1), .int .u8 (a7), .int .u8 (a15), .int .u8 (0), .int .i32 (0)], .int .i64 0]) (by simp [results, Try.results28, go_sem, hlt10, c0, c1, c2, c3, c4, f0, f1, f2, f3', f4]) rfl ⟨?_, ?_⟩
          · rw [HR.out, if_pos hJ68, HD.out]; rfl
          · first
            | exact (((((HB10.out.setCell (Nat.le_refl _) _).setCell (Nat.le_refl _) _).setCell (Nat.le_refl _) _).setCell (Nat.le_refl _) _).setCell (Nat.le_refl _) _)
            | exact below_drew (((((HB10.out.setCell (Nat.le_refl _) _).setCell (Nat.le_refl _) _).setCell (Nat.le_refl _) _).setCell (Nat.le_refl _) _).setCell (Nat.le_refl _) _)
      · have E : a7 = dr ∧ a15 = d1 ∧ 0 = d2 ∧ x / 1048576 % 32 = di := by
          obtain ⟨q1, q2, q3, q4, q5⟩ := EQD.out
          obtain ⟨p1, p2, p3⟩ := HA.out
          rw [q5] at q1 q2 q3 q4
          simp [fmR, rdF, rs1F, rs2F, getF, hRd, hRs1, hRs2] at q1 q2 q3 q4
          refine ⟨by omega, by omega, by omega, ?_⟩
          first | omega | (unfold wrap32 at *; omega)
        obtain ⟨rfl, rfl, rfl, rfl⟩ := E
        repeat' (first | (with_reducible refine ex_then ?_) | (with_reducible refine ex_norm ?_) | (with_reducible refine ex_eq ?_) | ((with_reducible refine ex_ne ?_ ?_); exact rfl) | (with_reducible refine ex_thenR ?_) | (with_reducible refine ex_inN ?_) | (with_reducible refine ex_inR ?_) | (go_at_call 53; (first | (with_reducible refine (bits_31_1 _ _ h0 h1).mono ?_) | (with_reducible refine (bits_12_8 _ _ h0 h1).mono ?_) | (with_reducible refine (bits_20_1 _ _ h0 h1).mono ?_) | (with_reducible refine (bits_21_10 _ _ h0 h1).mono ?_) | (with_reducible refine (bits_20_12 _ _ h0 h1).mono ?_) | (with_reducible refine (bits_20_5 _ _ h0 h1).mono ?_) | (with_reducible refine (bits_25_7 _ _ h0 h1).mono ?_) | (with_reducible refine (bits_7_5 _ _ h0 h1).mono ?_) | (with_reducible refine (bits_7_1 _ _ h0 h1).mono ?_) | (with_reducible refine (bits_25_6 _ _ h0 h1).mono ?_) | (with_reducible refine (bits_8_4 _ _ h0 h1).mono ?_) ); rintro e w' ⟨rfl, rfl⟩; simp only []) | (go_at_call 57; (first | (rw [HEJ.out]; refine (signed_21 _ _ (by omega) (by omega)).mono ?_) | (rw [HES.out]; refine (signed_12 _ _ (by omega) (by omega)).mono ?_) | (rw [HEB.out]; refine (signed_13 _ _ (by omega) (by omega)).mono ?_) | (refine (signed_12 _ _ (by omega) (by omega)).mono ?_)); rintro e w' ⟨rfl, rfl⟩; simp only []) | go_values | go_skip | go_guarded | go_step | go_upon)
        refine (RP.out _ _ _ _ _ _ (by first | rfl | omega) (by first | rfl | omega) (by first | rfl | omega) (by first | rfl | omega) (by first | rfl | omega)).mono ?_
        rintro e w10 ⟨rfl, hb10⟩
        have k0 := hb10.cell (p := ⟨W3.heap.size, 0, none⟩) (by simp; omega)
        have k1 := hb10.cell (p := ⟨W3.heap.size, 1, none⟩) (by simp; omega)
        have k2 := hb10.cell (p := ⟨W3.heap.size, 2, none⟩) (by simp; omega)
        have k3 := hb10.cell (p := ⟨W3.heap.size, 3, none⟩) (by simp; omega)
        have k4 := hb10.cell (p := ⟨W3.heap.size, 4, none⟩) (by simp; omega)
        simp [go_sem, d0, d1', d2', d3, d4, z0, z1, z2, z3, z4, hz5] at k0 k1 k2 k3 k4
        have HF10 : Aside0 (RowsAt w10 g) := ⟨through HF5.out.1 HF5.out.2 (by repeat (first | exact Below.refl _ _ | refine below_set ?_)) hb10 (by have := HF5.out.2; first | omega | (simp; omega))⟩
        have hW10 : w10.heap[w.heap.size]? = some (.cells #[Value.int IntKind.u8 0, Value.int IntKind.u8 0, Value.int IntKind.u8 0, Value.int IntKind.u8 0, Value.int IntKind.i32 0] 40 (0, 0)) := through HW5.out.1 HW5.out.2 (by repeat (first | exact Below.refl _ _ | refine below_set ?_)) hb10 (by first | omega | (simp; omega))
        have HB10 : Aside0 (Below w.heap.size w w10) := ⟨below_through HB05.out (by repeat (first | exact Below.refl _ _ | refine below_set ?_)) (Nat.le_of_lt HW5.out.2) hb10 (by first | omega | (simp; omega))⟩
        have hlt10 : w.heap.size < w10.heap.size := block_lt hW10
        have HW10 := Aside0.mk hW10
        clear hb10 hW10 d0 d1' d2' d3 d4 z0 z1 z2 z3 z4 s0 s2
        rcases HEC.out with ⟨rfl, hjl⟩ | ⟨rfl, hvx, hjl⟩ | ⟨rfl, hvx, rfl, hJ68⟩
        · simp only []
          go_wp2
          refine ⟨⟨j + 1, by go_num, ⟨hjl⟩, HF10, HB10, ⟨⟨HW10.out, hlt10⟩⟩⟩, by simp [intOf]; omega⟩
        · have t : (v == x) = false := by simpa using hvx
          simp only []
          go_wp2
          refine ⟨⟨j + 1, by go_num, ⟨hjl⟩, HF10, HB10, ⟨⟨HW10.out, hlt10⟩⟩⟩, by simp [intOf]; omega⟩
        · have hxv := hvx.symm
          subst hxv
          have c0 := cell_of_block HW10.out 0
          have c1 := cell_of_block HW10.out 1
          have c2 := cell_of_block HW10.out 2
          have c3 := cell_of_block HW10.out 3
          have c4 := cell_of_block HW10.out 4
          simp at c0 c1 c2 c3 c4
          have f0 := free_of_block HW10.out 0
          have f1 := free_of_block HW10.out 1
          have f2 := free_of_block HW10.out 2
          have f3' := free_of_block HW10.out 3
          have f4 := free_of_block HW10.out 4
          simp only []
          go_wp2
          refine bodyPost_ret (v := .tuple #[.agg #[.int .u8 ((j : Int) + 1), .int .u8 (a7), .int .u8 (a15), .int .u8 (0), .int .i32 (x / 1048576 % 32)], .int .i64 0]) (by simp [results, Try.results28, go_sem, hlt10, c0, c1, c2, c3, c4, f0, f1, f2, f3', f4]) rfl ⟨?_, ?_⟩
          · rw [HR.out, if_pos hJ68, HD.out]; rfl
          · first
            | exact (((((HB10.out.setCell (Nat.le_refl _) _).setCell (Nat.le_refl _) _).setCell (Nat.le_refl _) _).setCell (Nat.le_refl _) _).setCell (Nat.le_refl _) _)
            | exact below_drew (((((HB10.out.setCell (Nat.le_refl _) _).setCell (Nat.le_refl _) _).setCell (Nat.le_refl _) _).setCell (Nat.le_refl _) _).setCell (Nat.le_refl _) _)
      · have E : 0 = dr ∧ 0 = d1 ∧ 0 = d2 ∧ 0 = di := by
          obtain ⟨q1, q2, q3, q4, q5⟩ := EQD.out
          obtain ⟨p1, p2, p3⟩ := HA.out
          rw [q5] at q1 q2 q3 q4
          simp [fmR, rdF, rs1F, rs2F, getF, hRd, hRs1, hRs2] at q1 q2 q3 q4
          refine ⟨by omega, by omega, by omega, ?_⟩
          first | omega | (unfold wrap32 at *; omega)
        obtain ⟨rfl, rfl, rfl, rfl⟩ := E
        repeat' (first | (with_reducible refine ex_then ?_) | (with_reducible refine ex_norm ?_) | (with_reducible refine ex_eq ?_) | ((with_reducible refine ex_ne ?_ ?_); exact rfl) | (with_reducible refine ex_thenR ?_) | (with_reducible refine ex_inN ?_) | (with_reducible refine ex_inR ?_) | (go_at_call 53; (first | (with_reducible refine (bits_31_1 _ _ h0 h1).mono ?_) | (with_reducible refine (bits_12_8 _ _ h0 h1).mono ?_) | (with_reducible refine (bits_20_1 _ _ h0 h1).mono ?_) | (with_reducible refine (bits_21_10 _ _ h0 h1).mono ?_) | (with_reducible refine (bits_20_12 _ _ h0 h1).mono ?_) | (with_reducible refine (bits_20_5 _ _ h0 h1).mono ?_) | (with_reducible refine (bits_25_7 _ _ h0 h1).mono ?_) | (with_reducible refine (bits_7_5 _ _ h0 h1).mono ?_) | (with_reducible refine (bits_7_1 _ _ h0 h1).mono ?_) | (with_reducible refine (bits_25_6 _ _ h0 h1).mono ?_) | (with_reducible refine (bits_8_4 _ _ h0 h1).mono ?_) ); rintro e w' ⟨rfl, rfl⟩; simp only []) | (go_at_call 57; (first | (rw [HEJ.out]; refine (signed_21 _ _ (by omega) (by omega)).mono ?_) | (rw [HES.out]; refine (signed_12 _ _ (by omega) (by omega)).mono ?_) | (rw [HEB.out]; refine (signed_13 _ _ (by omega) (by omega)).mono ?_) | (refine (signed_12 _ _ (by omega) (by omega)).mono ?_)); rintro e w' ⟨rfl, rfl⟩; simp only []) | go_values | go_skip | go_guarded | go_step | go_upon)
        refine (RP.out _ _ _ _ _ _ (by first | rfl | omega) (by first | rfl | omega) (by first | rfl | omega) (by first | rfl | omega) (by first | rfl | omega)).mono ?_
        rintro e w10 ⟨rfl, hb10⟩
        have k0 := hb10.cell (p := ⟨W3.heap.size, 0, none⟩) (by simp; omega)
        have k1 := hb10.cell (p := ⟨W3.heap.size, 1, none⟩) (by simp; omega)
        have k2 := hb10.cell (p := ⟨W3.heap.size, 2, none⟩) (by simp; omega)
        have k3 := hb10.cell (p := ⟨W3.heap.size, 3, none⟩) (by simp; omega)
        have k4 := hb10.cell (p := ⟨W3.heap.size, 4, none⟩) (by simp; omega)
        simp [go_sem, d0, d1', d2', d3, d4, z0, z1, z2, z3, z4, hz5] at k0 k1 k2 k3 k4
        have HF10 : Aside0 (RowsAt w10 g) := ⟨through HF5.out.1 HF5.out.2 (by repeat (first | exact Below.refl _ _ | refine below_set ?_)) hb10 (by have := HF5.out.2; first | omega | (simp; omega))⟩
        have hW10 : w10.heap[w.heap.size]? = some (.cells #[Value.int IntKind.u8 0, Value.int IntKind.u8 0, Value.int IntKind.u8 0, Value.int IntKind.u8 0, Value.int IntKind.i32 0] 40 (0, 0)) := through HW5.out.1 HW5.out.2 (by repeat (first | exact Below.refl _ _ | refine below_set ?_)) hb10 (by first | omega | (simp; omega))
        have HB10 : Aside0 (Below w.heap.size w w10) := ⟨below_through HB05.out (by repeat (first | exact Below.refl _ _ | refine below_set ?_)) (Nat.le_of_lt HW5.out.2) hb10 (by first | omega | (simp; omega))⟩
        have hlt10 : w.heap.size < w10.heap.size := block_lt hW10
        have HW10 := Aside0.mk hW10
        clear hb10 hW10 d0 d1' d2' d3 d4 z0 z1 z2 z3 z4 s0 s2
        rcases HEC.out with ⟨rfl, hjl⟩ | ⟨rfl, hvx, hjl⟩ | ⟨rfl, hvx, rfl, hJ68⟩
        · simp only []
          go_wp2
          refine ⟨⟨j + 1, by go_num, ⟨hjl⟩, HF10, HB10, ⟨⟨HW10.out, hlt10⟩⟩⟩, by simp [intOf]; omega⟩
        · have t : (v == x) = false := by simpa using hvx
          simp only []
          go_wp2
          refine ⟨⟨j + 1, by go_num, ⟨hjl⟩, HF10, HB10, ⟨⟨HW10.out, hlt10⟩⟩⟩, by simp [intOf]; omega⟩
        · have hxv := hvx.symm
          subst hxv
          have c0 := cell_of_block HW10.out 0
          have c1 := cell_of_block HW10.out 1
          have c2 := cell_of_block HW10.out 2
          have c3 := cell_of_block HW10.out 3
          have c4 := cell_of_block HW10.out 4
          simp at c0 c1 c2 c3 c4
          have f0 := free_of_block HW10.out 0
          have f1 := free_of_block HW10.out 1
          have f2 := free_of_block HW10.out 2
          have f3' := free_of_block HW10.out 3
          have f4 := free_of_block HW10.out 4
          simp only []
          go_wp2
          refine bodyPost_ret (v := .tuple #[.agg #[.int .u8 ((j : Int) + 1), .int .u8 (0), .int .u8 (0), .int .u8 (0), .int .i32 (0)], .int .i64 0]) (by simp [results, Try.results28, go_sem, hlt10, c0, c1, c2, c3, c4, f0, f1, f2, f3', f4]) rfl ⟨?_, ?_⟩
          · rw [HR.out, if_pos hJ68, HD.out]; rfl
          · first
            | exact (((((HB10.out.setCell (Nat.le_refl _) _).setCell (Nat.le_refl _) _).setCell (Nat.le_refl _) _).setCell (Nat.le_refl _) _).setCell (Nat.le_refl _) _)
            | exact below_drew (((((HB10.out.setCell (Nat.le_refl _) _).setCell (Nat.le_refl _) _).setCell (Nat.le_refl _) _).setCell (Nat.le_refl _) _).setCell (Nat.le_refl _) _)

    · have e : j = 68 := by have := HJ.out; have := HH.out.1; omega
      subst e
      obtain ⟨hblk, hz⟩ := HW.out
      have hlt : w.heap.size < wr.heap.size := by omega
      have c0 := cell_of_block hblk 0
      have c1 := cell_of_block hblk 1
      have c2 := cell_of_block hblk 2
      have c3 := cell_of_block hblk 3
      have c4 := cell_of_block hblk 4
      simp at c0 c1 c2 c3 c4
      have f0 := free_of_block hblk 0
      have f1 := free_of_block hblk 1
      have f2 := free_of_block hblk 2
      have f3 := free_of_block hblk 3
      have f4 := free_of_block hblk 4
      clear hblk
      go_wp2
      refine bodyPost_ret (v := .tuple #[.agg #[.int .u8 0, .int .u8 0, .int .u8 0, .int .u8 0, .int .i32 0], .int .i64 5]) (by simp [results, Try.results28, go_sem, hlt, c0, c1, c2, c3, c4, f0, f1, f2, f3, f4]) rfl ⟨?_, ?_⟩
      · have : ¬ J < 68 := by have := HJ.out; omega
        rw [HR.out, if_neg this]; rfl
      · first
        | exact (((((HB.out.setCell (Nat.le_refl _) _).setCell (Nat.le_refl _) _).setCell (Nat.le_refl _) _).setCell (Nat.le_refl _) _).setCell (Nat.le_refl _) _)
        | exact below_drew (((((HB.out.setCell (Nat.le_refl _) _).setCell (Nat.le_refl _) _).setCell (Nat.le_refl _) _).setCell (Nat.le_refl _) _).setCell (Nat.le_refl _) _)

theorem rget_calls (x : Int) (h0 : 0 ≤ x) (h1 : x < 4294967296) (w : World) : Calls Try.prog 28 #[.int .u32 x] w fun e w' => e = .returned (getV (getS x)) ∧ Below w.heap.size w w' := by
  have dp : ∀ j, j < 68 → (putD j x = (x, 0) ↔ hitB x (pairs.getD j (0, 0)) = true ∧ goodB (pairs.getD j (0, 0)) x = true) := fun j hj => dec_put (row_facts1 j hj).1 x h0 h1
  by_cases h : ∃ j, j < 68 ∧ putD j x = (x, 0)
  · obtain ⟨j, hj, hp⟩ := h
    obtain ⟨a, b⟩ := (dp j hj).1 hp
    have hm := (row_facts1 j hj).1
    refine rget_at j (Nat.le_of_lt hj) x h0 h1 (fun i hi hpi => ?_) (fun _ => hp) (getS x) ?_ w
    · obtain ⟨a', _⟩ := (dp i (by omega)).1 hpi
      have e := hit_one (row_facts1 i (by omega)).1 hm h0 h1 a' a
      have e2 := (row_facts1 i (by omega)).2.1
      rw [e, (row_facts1 j hj).2.1] at e2
      omega
    · rw [if_pos hj, getS_hit hm h0 h1 a, b]; rfl
  · refine rget_at 68 (Nat.le_refl _) x h0 h1 (fun i hi hpi => h ⟨i, hi, hpi⟩) (fun h68 => absurd h68 (by decide)) (getS x) ?_ w
    rw [if_neg (by decide)]
    have all : ∀ p ∈ pairs, ∃ j, j < 68 ∧ pairs.getD j (0, 0) = p := by decide +kernel
    by_cases g : ∃ p ∈ pairs, hitB x p = true
    · obtain ⟨p, hp, hh⟩ := g
      obtain ⟨j, hj, rfl⟩ := all p hp
      have hb : goodB (pairs.getD j (0, 0)) x = false := by
        cases hg : goodB (pairs.getD j (0, 0)) x with
        | false => rfl
        | true => exact absurd ⟨j, hj, (dp j hj).2 ⟨hh, hg⟩⟩ h
      rw [getS_hit hp h0 h1 hh, hb]; rfl
    · rw [getS_none fun p hp => by
        cases hh : hitB x p with
        | false => rfl
        | true => exact absurd ⟨p, hp, hh⟩ g]
end Go.Proofs.Ythkbjoglhfclmaa.Ins
