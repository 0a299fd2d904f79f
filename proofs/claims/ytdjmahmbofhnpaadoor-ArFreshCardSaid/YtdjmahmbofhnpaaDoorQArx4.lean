-- Written by a program of this session (wip/pr.py).
import Derived.Test.YtdjmahmbofhnpaaDoorQArx0
import Derived.Test.YtdjmahmbofhnpaaDoorQArx2
import Derived.Test.YtdjmahmbofhnpaaDoorQArx3
namespace Go.Proofs.YtdjmahmbofhnpaaDoor.QAr
open Go.RowKit Go.Proofs.YtdjmahmbofhnpaaDoorW.PrintWords Go.Proofs.YtdjmahmbofhnpaaDoorW.PrintLast Go.Proofs.YtdjmahmbofhnpaaDoorW.PrintMore
attribute [local go_sem] max2_int min2_int max_two min_two max_three min_three max_four min_four   -- for this text's walks alone
set_option linter.unusedVariables false
set_option linter.unusedSimpArgs false

/-! ### bulwarkref10_parts: function 32 -/
mutual
def bulwarkref10_parts.l0 : Nat → List Int → List (S64) → Int → Option ((List (S64)) × Int)
  | 0, _, _, _ => none
  | k + 1, x0, x4, x5 => if x5 < (x0.length : Int) then (if (Int.tmod x5 2) = 1 then (if 0 ≤ x5 then (if (rd x0 x5) = 10 then (if (wrap64 (x5 + 1)) = (x0.length : Int) then (some (([] : List (S64)), 5)) else (bulwarkref10_parts.j1 k x0 x4 (wrap64 (x5 + 1)))) else (some (([] : List (S64)), 5))) else (none)) else (bulwarkref10_parts.j1 k x0 x4 x5)) else (some (x4, 0))
def bulwarkref10_parts.j1 : Nat → List Int → List (S64) → Int → Option ((List (S64)) × Int)
  | 0, _, _, _ => none
  | k + 1, x0, x4, x5 => if (wrap64 ((x0.length : Int) - x5)) < 60 then (some (([] : List (S64)), 4)) else (if 0 ≤ (wrap64 (x5 + 48)) then (if (wrap64 (x5 + 48)) ≤ (wrap64 (x5 + 58)) then (if (wrap64 (x5 + 58)) ≤ (x0.length : Int) then ((bulwarkref10_size.f k ((x0.take ((wrap64 (x5 + 58)) : Int).toNat).drop ((wrap64 (x5 + 48)) : Int).toNat)).bind fun bt112 => (if bt112.2 = true then (if 0 ≤ (wrap64 (x5 + 58)) then (if (wrap64 (x5 + 58)) < (x0.length : Int) then (if (rd x0 (wrap64 (x5 + 58))) = 96 then (if 0 ≤ (wrap64 (x5 + 59)) then (if (wrap64 (x5 + 59)) < (x0.length : Int) then (bulwarkref10_parts.j2 k x0 x4 x5 bt112.1 ((rd x0 (wrap64 (x5 + 59))) != 10)) else (none)) else (none)) else (bulwarkref10_parts.j2 k x0 x4 x5 bt112.1 true)) else (none)) else (none)) else (bulwarkref10_parts.j2 k x0 x4 x5 bt112.1 true))) else (none)) else (none)) else (none))
def bulwarkref10_parts.j2 : Nat → List Int → List (S64) → Int → Int → Bool → Option ((List (S64)) × Int)
  | 0, _, _, _, _, _ => none
  | k + 1, x0, x4, x5, x6, x70 => if x70 = true then (some (([] : List (S64)), 5)) else (if x6 > (wrap64 ((wrap64 ((x0.length : Int) - x5)) - 60)) then (some (([] : List (S64)), 4)) else (if 0 ≤ (wrap64 (x5 + 60)) then (if (wrap64 (x5 + 60)) ≤ (wrap64 ((wrap64 (x5 + 60)) + x6)) then (if (wrap64 ((wrap64 (x5 + 60)) + x6)) ≤ (x0.length : Int) then (if ([] : List Int).length + ((x0.take ((wrap64 ((wrap64 (x5 + 60)) + x6)) : Int).toNat).drop ((wrap64 (x5 + 60)) : Int).toNat).length < 140737488355328 then (if 0 ≤ x5 then (if x5 ≤ (wrap64 (x5 + 16)) then (if (wrap64 (x5 + 16)) ≤ (x0.length : Int) then ((bulwarkref10_trimmed.f k ((x0.take ((wrap64 (x5 + 16)) : Int).toNat).drop (x5 : Int).toNat)).bind fun t121 => (if x4.length < 2932031007402 then (bulwarkref10_parts.l0 k x0 (x4 ++ [(⟨t121, x5, (([] : List Int) ++ ((x0.take ((wrap64 ((wrap64 (x5 + 60)) + x6)) : Int).toNat).drop ((wrap64 (x5 + 60)) : Int).toNat))⟩ : S64)]) (wrap64 ((wrap64 (x5 + 60)) + x6))) else (none))) else (none)) else (none)) else (none)) else (none)) else (none)) else (none)) else (none)))
end
def bulwarkref10_parts.f (k : Nat) (l0 : List Int) : Option ((List (S64)) × Int) := if (l0.length : Int) < 8 then (some (([] : List (S64)), 4)) else (if 8 ≤ (l0.length : Int) then ((bulwarkref10_magic.f).bind fun t109 => (if (strOfNums (l0.take 8)).toList = t109.toList then (bulwarkref10_parts.l0 k l0 ([] : List (S64)) 8) else (some (([] : List (S64)), 5)))) else (none))
theorem bulwarkref10_parts.mono_l : ∀ k, (∀ y0 y1 y2, LeO (bulwarkref10_parts.l0 k y0 y1 y2) (bulwarkref10_parts.l0 (k + 1) y0 y1 y2)) ∧ (∀ y0 y1 y2, LeO (bulwarkref10_parts.j1 k y0 y1 y2) (bulwarkref10_parts.j1 (k + 1) y0 y1 y2)) ∧ (∀ y0 y1 y2 y3 y4, LeO (bulwarkref10_parts.j2 k y0 y1 y2 y3 y4) (bulwarkref10_parts.j2 (k + 1) y0 y1 y2 y3 y4))
  | 0 => ⟨fun _ _ _ r h => by simp [bulwarkref10_parts.l0] at h, fun _ _ _ r h => by simp [bulwarkref10_parts.j1] at h, fun _ _ _ _ _ r h => by simp [bulwarkref10_parts.j2] at h⟩
  | k + 1 => by
    obtain ⟨ih0, ih1, ih2⟩ := bulwarkref10_parts.mono_l k
    refine ⟨?_, ?_, ?_⟩
    · intro y0 y1 y2
      unfold bulwarkref10_parts.l0
      repeat' first
      | (with_reducible exact ih0 _ _ _)
      | (with_reducible exact ih1 _ _ _)
      | (with_reducible exact ih2 _ _ _ _ _)
      | (with_reducible exact bulwarkref10_size.mono _ _)
      | (with_reducible exact bulwarkref10_trimmed.mono _ _)
      | (with_reducible exact LeO.refl _)
      | (with_reducible exact LeO.none _)
      | (with_reducible refine LeO.ite ?_ ?_)
      | (with_reducible refine LeO.bind ?_ (fun _ => ?_))
      | exact ih0 _ _ _
      | exact ih1 _ _ _
      | exact ih2 _ _ _ _ _
      | exact bulwarkref10_size.mono _ _
      | exact bulwarkref10_trimmed.mono _ _
      | exact LeO.none _
      | refine LeO.ite ?_ ?_
      | refine LeO.bind ?_ (fun _ => ?_)
    · intro y0 y1 y2
      unfold bulwarkref10_parts.j1
      repeat' first
      | (with_reducible exact ih0 _ _ _)
      | (with_reducible exact ih1 _ _ _)
      | (with_reducible exact ih2 _ _ _ _ _)
      | (with_reducible exact bulwarkref10_size.mono _ _)
      | (with_reducible exact bulwarkref10_trimmed.mono _ _)
      | (with_reducible exact LeO.refl _)
      | (with_reducible exact LeO.none _)
      | (with_reducible refine LeO.ite ?_ ?_)
      | (with_reducible refine LeO.bind ?_ (fun _ => ?_))
      | exact ih0 _ _ _
      | exact ih1 _ _ _
      | exact ih2 _ _ _ _ _
      | exact bulwarkref10_size.mono _ _
      | exact bulwarkref10_trimmed.mono _ _
      | exact LeO.none _
      | refine LeO.ite ?_ ?_
      | refine LeO.bind ?_ (fun _ => ?_)
    · intro y0 y1 y2 y3 y4
      unfold bulwarkref10_parts.j2
      repeat' first
      | (with_reducible exact ih0 _ _ _)
      | (with_reducible exact ih1 _ _ _)
      | (with_reducible exact ih2 _ _ _ _ _)
      | (with_reducible exact bulwarkref10_size.mono _ _)
      | (with_reducible exact bulwarkref10_trimmed.mono _ _)
      | (with_reducible exact LeO.refl _)
      | (with_reducible exact LeO.none _)
      | (with_reducible refine LeO.ite ?_ ?_)
      | (with_reducible refine LeO.bind ?_ (fun _ => ?_))
      | exact ih0 _ _ _
      | exact ih1 _ _ _
      | exact ih2 _ _ _ _ _
      | exact bulwarkref10_size.mono _ _
      | exact bulwarkref10_trimmed.mono _ _
      | exact LeO.none _
      | refine LeO.ite ?_ ?_
      | refine LeO.bind ?_ (fun _ => ?_)
theorem bulwarkref10_parts.mono : ∀ a0 k, LeO (bulwarkref10_parts.f k a0) (bulwarkref10_parts.f (k + 1) a0) := by
  intro a0 k
  obtain ⟨ih0, ih1, ih2⟩ := bulwarkref10_parts.mono_l k
  unfold bulwarkref10_parts.f
  repeat' first
      | (with_reducible exact ih0 _ _ _)
      | (with_reducible exact ih1 _ _ _)
      | (with_reducible exact ih2 _ _ _ _ _)
      | (with_reducible exact bulwarkref10_size.mono _ _)
      | (with_reducible exact bulwarkref10_trimmed.mono _ _)
      | (with_reducible exact LeO.refl _)
      | (with_reducible exact LeO.none _)
      | (with_reducible refine LeO.ite ?_ ?_)
      | (with_reducible refine LeO.bind ?_ (fun _ => ?_))
      | exact ih0 _ _ _
      | exact ih1 _ _ _
      | exact ih2 _ _ _ _ _
      | exact bulwarkref10_size.mono _ _
      | exact bulwarkref10_trimmed.mono _ _
      | exact LeO.none _
      | refine LeO.ite ?_ ?_
      | refine LeO.bind ?_ (fun _ => ?_)
set_option maxHeartbeats 8000000 in
set_option maxRecDepth 100000 in
theorem bulwarkref10_parts.calls (k : Nat) (A0 : Option Addr) (c0 : Nat) (l0 : List Int) (r1 : List (S64)) (r2 : Int) (w : World) (hr0 : Kd.C (Kd.int .u8) w A0 l0.length l0) (hc0 : l0.length ≤ c0) (h : bulwarkref10_parts.f k l0 = some (r1, r2)) :
    Calls Tryd.prog 32 #[.slice A0 l0.length c0] w fun e w' => ∃ v0_ : Value, e = .returned (.tuple #[v0_, .int .i64 r2]) ∧ Kd.S k64 64 w' w.heap.size (fun _ => True) v0_ r1 ∧ Below w.heap.size w w' := by
  have hu64 := Tryd.underlying64
  have HR0 := Aside0.mk hr0
  have HC0 := Aside0.mk hc0
  clear hr0 hc0
  have HB := Aside0.mk (Below.refl w.heap.size w)
  have H : (if (l0.length : Int) < 8 then (some (([] : List (S64)), 4)) else (if 8 ≤ (l0.length : Int) then ((bulwarkref10_magic.f).bind fun t109 => (if (strOfNums (l0.take 8)).toList = t109.toList then (bulwarkref10_parts.l0 k l0 ([] : List (S64)) 8) else (some (([] : List (S64)), 5)))) else (none))) = some (r1, r2) := h
  clear h
  by_cases c2 : (l0.length : Int) < 8
  · rw [if_pos c2] at H
    have c2b0 : decide ((l0.length : Int) < 8) = true := decide_eq_true c2
    have c2b1 : decide (l0.length < 8) = true := decide_eq_true (by omega)
    clear c2
    simp only [Option.some.injEq, Prod.mk.injEq] at H
    obtain ⟨rfl, rfl⟩ := H
    go_enter Tryd.func32, Tryd.ntmps32
    go_wp2
    go_ret2
    exact ⟨_, by first | rfl | (simp [errW_none, errW_some] <;> rfl) | (simp [*, errW_none, errW_some] <;> rfl), by first | exact Kd.S_nil _ _ _ _ _ | exact Kd.N_nil _ _ _ _ _ | exact Kd.V_nil _ _ _ _ _ | exact Kd.Q_nil _ _ _ _ _ | exact Kd.R_nil _ _ _ _ _, by repeat (first | (with_reducible first | exact HB.out | apply below_alloc | apply pw_below_drewN | apply below_drew1) | exact HB.out)⟩
  · rw [if_neg c2] at H
    have c2b0 : decide ((l0.length : Int) < 8) = false := decide_eq_false c2
    have c2b1 : decide (l0.length < 8) = false := decide_eq_false (by omega)
    clear c2
    by_cases c3 : 8 ≤ (l0.length : Int)
    · rw [if_pos c3] at H
      have c3b0 := eq_true c3
      have c3b1 : decide (8 ≤ (l0.length : Int)) = true := decide_eq_true c3
      clear c3
      replace H := Option.bind_eq_some_iff.mp H
      obtain ⟨t109, A40, H⟩ := H
      replace H : (if (strOfNums (l0.take 8)).toList = t109.toList then (bulwarkref10_parts.l0 k l0 ([] : List (S64)) 8) else (some (([] : List (S64)), 5))) = some (r1, r2) := H
      have A4 := Aside0.mk A40
      clear A40
      by_cases c5 : (strOfNums (l0.take 8)).toList = t109.toList
      · rw [if_pos c5] at H
        have c5b0 : ((strOfNums (l0.take 8)).toList == t109.toList) = true := beq_iff_eq.mpr c5
        have c5b1 : ((strOfNums (l0.take 8)).toList != t109.toList) = false := bne_eq_false_iff_eq.mpr c5
        clear c5
        have H' := Aside0.mk H
        clear H
        go_enter Tryd.func32, Tryd.ntmps32
        try go_wp2
        have n0_ := Aside0.mk (below_drew1 HB.out)
        clear HB
        have HB := n0_
        clear n0_
        obtain ⟨i07, hi07, _, hsz7, _⟩ := info_parts info5
        obtain ⟨hcut7, hA7, hC7⟩ := print_take_of (P := Tryd.prog) (Value.int .u8) 0 24 5 .i64 Tryd.underlying24 hi07 hsz7 A0 c0 l0 8 (by omega) (of_decide_eq_true (by first | (with_reducible assumption) | assumption)) HC0.out
        have HR108 := Aside0.mk (Kd.C_of_reads (h1 := fun _ => rfl) (hA7 _ (Kd.reads_of_C HR0.out)))
        have HC108 := Aside0.mk hC7
        clear hA7 hC7 hi07 hsz7
        have hcv8 : ∀ W, Below w.heap.size w W → (convert 24 9 (.slice A0 (min 8 l0.length) c0)).run Tryd.prog W = .ok (.string (strOfNums (l0.take 8))) W := fun W hW => by have h := Kd.C_string (P := Tryd.prog) (A := A0) (c := c0) Tryd.underlying24 Tryd.underlying5 Tryd.underlying9 (Kd.C_below HR108.out hW); rw [List.length_take] at h; exact h
        refine start_ (n := 5) (S := fun w' => Below w.heap.size w w') (ds := []) #[false, false, false, false, false] (by kernel_rfl) rfl rfl HB.out (fun hHeld => ?_)
        generalize w.drew = w6 at HB HR108 hHeld ⊢
        refine pure_ (i := 0) (N := some 12) (v := ?_) (a' := ?_) #[true, false, false, false, false] rfl rfl (by kernel_rfl) (fun _ _ _ h => h) (Or.inl ⟨by rfl, ?_⟩) ?_ ?_
        rotate_left
        · intro w'
          go_simp
          with_reducible rfl
        rotate_left
        · simp only [Act.put, List.setIfInBounds_toArray, List.set_cons_zero, List.set_cons_succ, i64_w, i32_w]
          rfl
        refine pure_ (i := 1) (N := some 13) (v := ?_) (a' := ?_) #[true, true, false, false, false] rfl rfl (by kernel_rfl) (fun _ _ _ h => h) (Or.inl ⟨by rfl, ?_⟩) ?_ ?_
        rotate_left
        · intro w'
          go_simp
          with_reducible rfl
        rotate_left
        · simp only [Act.put, List.setIfInBounds_toArray, List.set_cons_zero, List.set_cons_succ, i64_w, i32_w]
          rfl
        refine take_ (i := 2) (N := some 14) (v := ?_) (a' := ?_) #[true, true, true, false, false] rfl rfl (by kernel_rfl) (fun _ _ _ h => h) (Or.inl ⟨by rfl, ?_⟩) hHeld ?_ ?_
        rotate_left
        · intro w' s0
          have hq := hcv8 w' s0
          go_simp
          with_reducible rfl
        rotate_left
        · simp only [Act.put, List.setIfInBounds_toArray, List.set_cons_zero, List.set_cons_succ, i64_w, i32_w]
          rfl
        refine one_ (i := 3) (N := some 15) #[true, true, true, true, false] rfl rfl (by kernel_rfl) (by decide) (fun K hK => ?_)
        refine goes_ Tryd.func26 (by kernel_rfl) rfl #[] (by rfl) rfl rfl (by (try simp only [List.map_toArray, List.map_cons, List.map_nil]); first | done | rfl | (simp only [List.length_drop, List.length_take]; rfl)) ?_
        with_reducible refine (bulwarkref10_magic.calls  t109 _ A4.out).mono ?_
        rintro e w9 ⟨rfl, hb⟩
        refine ⟨_, rfl, ?_⟩
        have n0_ := Aside0.mk (below_step (by repeat (first | (with_reducible first | exact HB.out | apply below_alloc | apply pw_below_drewN | apply below_drew1) | exact HB.out)) hb)
        clear HB
        have HB := n0_
        clear n0_
        (try clear hb)
        (try clear hb2)
        (try clear hk)
        (try clear hi)
        refine hK.out _ _ HB.out (fun hHeld => ?_)
        clear hK K
        refine norm_ (a' := ?_) ?_ ?_
        rotate_left
        · show Act.put _ (some 15) _ = _
          simp only [Act.put, List.setIfInBounds_toArray, List.set_cons_zero, List.set_cons_succ, i64_w, i32_w]
          rfl
        refine pure_ (i := 4) (N := some 16) (v := ?_) (a' := ?_) #[true, true, true, true, true] rfl rfl (by kernel_rfl) (fun _ _ _ h => h) (Or.inl ⟨by rfl, ?_⟩) ?_ ?_
        rotate_left
        · intro w'
          go_simp
          with_reducible rfl
        rotate_left
        · simp only [Act.put, List.setIfInBounds_toArray, List.set_cons_zero, List.set_cons_succ, i64_w, i32_w]
          rfl
        refine done_ (by kernel_rfl) ?_
        try go_wp2
        go_loopg [4, 5] k (fun kq v4 v5 w' => ∃ (x4_1 : List (S64)) (x5_1 : Int), v5 = .int .i64 x5_1 ∧ Aside0 (bulwarkref10_parts.l0 kq l0 x4_1 x5_1 = some (r1, r2)) ∧ Aside0 (kq ≤ k) ∧ Aside0 (Kd.S k64 64 w' w.heap.size (fun _ => True) v4 x4_1) ∧ Aside0 (Below w.heap.size w w'))
        case atStart => exact ⟨(([] : List (S64))), (8), (by first | rfl | (simp; done) | (simp [*]; done)), H', ⟨Nat.le_refl _⟩, ⟨by first | exact Kd.S_nil _ _ _ _ _ | exact Kd.N_nil _ _ _ _ _ | exact Kd.V_nil _ _ _ _ _ | exact Kd.Q_nil _ _ _ _ _ | exact Kd.R_nil _ _ _ _ _⟩, ⟨by repeat (first | (with_reducible first | exact HB.out | apply below_alloc | apply pw_below_drewN | apply below_drew1) | exact HB.out)⟩⟩
        case round =>
          clear H'
          try clear c2
          try clear c2b0
          try clear c2b1
          try clear p2
          try clear c3
          try clear c3b0
          try clear c3b1
          try clear c5
          try clear c5b0
          try clear c5b1
          try clear hcv8
          obtain ⟨x4_1, x5_1, rfl, HA, HK1, HO_4, HB⟩ := hrel
          cases gk with
          | zero => exact absurd HA.out (by simp [bulwarkref10_parts.l0])
          | succ k1 =>
            have H := HA.out
            clear HA
            simp only [bulwarkref10_parts.l0] at H
            by_cases c11 : x5_1 < (l0.length : Int)
            · rw [if_pos c11] at H
              have c11b0 : decide (x5_1 < (l0.length : Int)) = true := decide_eq_true c11
              clear c11
              have HC12 := Aside0.mk H
              clear H
              go_upto_if 23 with (fail)
              go_cut [5] (fun v5 wc => ∃ (kq : Nat) (x5_11 : Int), v5 = .int .i64 x5_11 ∧ Aside0 (bulwarkref10_parts.j1 kq l0 x4_1 x5_11 = some (r1, r2)) ∧ Aside0 (kq ≤ k1) ∧ Aside0 (Kd.S k64 64 wc w.heap.size (fun _ => True) u4 x4_1) ∧ Aside0 (Below w.heap.size w wc))
              case first =>
                have H := HC12.out
                clear HC12
                by_cases c13 : (Int.tmod x5_1 2) = 1
                · rw [if_pos c13] at H
                  have c13b0 : ((Int.tmod x5_1 2) == 1) = true := beq_iff_eq.mpr c13
                  have c13b1 : ((Int.tmod x5_1 2) != 1) = false := bne_eq_false_iff_eq.mpr c13
                  clear c13
                  (first | rw [c13b0] | (simp only [i64_w, i32_w]; rw [c13b0]) | skip)
                  by_cases c14 : 0 ≤ x5_1
                  · rw [if_pos c14] at H
                    have c14b0 : decide (0 ≤ x5_1) = true := decide_eq_true c14
                    clear c14
                    by_cases c15 : (rd l0 x5_1) = 10
                    · rw [if_pos c15] at H
                      have c15b0 : ((rd l0 x5_1) == 10) = true := beq_iff_eq.mpr c15
                      have c15b1 : ((rd l0 x5_1) != 10) = false := bne_eq_false_iff_eq.mpr c15
                      clear c15
                      by_cases c16 : (wrap64 (x5_1 + 1)) = (l0.length : Int)
                      · rw [if_pos c16] at H
                        have c16b0 : ((wrap64 (x5_1 + 1)) == (l0.length : Int)) = true := beq_iff_eq.mpr c16
                        have c16b1 : ((wrap64 (x5_1 + 1)) != (l0.length : Int)) = false := bne_eq_false_iff_eq.mpr c16
                        clear c16
                        simp only [Option.some.injEq, Prod.mk.injEq] at H
                        obtain ⟨rfl, rfl⟩ := H
                        have p110 : 0 ≤ (x5_1 : Int) := of_decide_eq_true (by first | (with_reducible assumption) | assumption)
                        have q110 : x5_1 < (l0.length : Int) := of_decide_eq_true (by first | (with_reducible assumption) | assumption)
                        obtain ⟨ad110, e110, hx110_0⟩ := Kd.at_int HR0.out x5_1 p110 q110
                        cases e110
                        replace hx110_0 := (HB.out.cell (World.block_lt_of_cell? w _ hx110_0)).trans hx110_0
                        replace p110 := eq_true p110
                        replace q110 := eq_true q110
                        go_wp2
                        go_ret2
                        exact ⟨_, by first | rfl | (simp [errW_none, errW_some] <;> rfl) | (simp [*, errW_none, errW_some] <;> rfl), by first | exact Kd.S_nil _ _ _ _ _ | exact Kd.N_nil _ _ _ _ _ | exact Kd.V_nil _ _ _ _ _ | exact Kd.Q_nil _ _ _ _ _ | exact Kd.R_nil _ _ _ _ _, by repeat (first | (with_reducible first | exact HB.out | apply below_alloc | apply pw_below_drewN | apply below_drew1) | exact HB.out)⟩
                      · rw [if_neg c16] at H
                        have c16b0 : ((wrap64 (x5_1 + 1)) == (l0.length : Int)) = false := beq_eq_false_iff_ne.mpr c16
                        have c16b1 : ((wrap64 (x5_1 + 1)) != (l0.length : Int)) = true := bne_iff_ne.mpr c16
                        have H' := Aside0.mk H
                        clear H
                        have p110 : 0 ≤ (x5_1 : Int) := of_decide_eq_true (by first | (with_reducible assumption) | assumption)
                        have q110 : x5_1 < (l0.length : Int) := of_decide_eq_true (by first | (with_reducible assumption) | assumption)
                        obtain ⟨ad110, e110, hx110_0⟩ := Kd.at_int HR0.out x5_1 p110 q110
                        cases e110
                        replace hx110_0 := (HB.out.cell (World.block_lt_of_cell? w _ hx110_0)).trans hx110_0
                        replace p110 := eq_true p110
                        replace q110 := eq_true q110
                        go_wp2
                        go_meet
                        case rel => exact ⟨_, (wrap64 (x5_1 + 1)), (by first | rfl | (simp; done) | (simp [*]; done)), H', ⟨by have := HK1.out; first | omega | exact Nat.le_refl _⟩, ⟨by (with_reducible repeat (first | apply Kd.S_alloc | apply Kd.S_drewN | apply Kd.S_drew)); exact HO_4.out⟩, ⟨by repeat (first | (with_reducible first | exact HB.out | apply below_alloc | apply pw_below_drewN | apply below_drew1) | exact HB.out)⟩⟩
                    · rw [if_neg c15] at H
                      have c15b0 : ((rd l0 x5_1) == 10) = false := beq_eq_false_iff_ne.mpr c15
                      have c15b1 : ((rd l0 x5_1) != 10) = true := bne_iff_ne.mpr c15
                      simp only [Option.some.injEq, Prod.mk.injEq] at H
                      obtain ⟨rfl, rfl⟩ := H
                      have p110 : 0 ≤ (x5_1 : Int) := of_decide_eq_true (by first | (with_reducible assumption) | assumption)
                      have q110 : x5_1 < (l0.length : Int) := of_decide_eq_true (by first | (with_reducible assumption) | assumption)
                      obtain ⟨ad110, e110, hx110_0⟩ := Kd.at_int HR0.out x5_1 p110 q110
                      cases e110
                      replace hx110_0 := (HB.out.cell (World.block_lt_of_cell? w _ hx110_0)).trans hx110_0
                      replace p110 := eq_true p110
                      replace q110 := eq_true q110
                      go_wp2
                      go_ret2
                      exact ⟨_, by first | rfl | (simp [errW_none, errW_some] <;> rfl) | (simp [*, errW_none, errW_some] <;> rfl), by first | exact Kd.S_nil _ _ _ _ _ | exact Kd.N_nil _ _ _ _ _ | exact Kd.V_nil _ _ _ _ _ | exact Kd.Q_nil _ _ _ _ _ | exact Kd.R_nil _ _ _ _ _, by repeat (first | (with_reducible first | exact HB.out | apply below_alloc | apply pw_below_drewN | apply below_drew1) | exact HB.out)⟩
                  · rw [if_neg c14] at H
                    exact absurd H (by simp)
                · rw [if_neg c13] at H
                  have c13b0 : ((Int.tmod x5_1 2) == 1) = false := beq_eq_false_iff_ne.mpr c13
                  have c13b1 : ((Int.tmod x5_1 2) != 1) = true := bne_iff_ne.mpr c13
                  (first | rw [c13b0] | (simp only [i64_w, i32_w]; rw [c13b0]) | skip)
                  have H' := Aside0.mk H
                  clear H
                  go_wp2
                  go_meet
                  case rel => exact ⟨_, (x5_1), (by first | rfl | (simp; done) | (simp [*]; done)), H', ⟨by have := HK1.out; first | omega | exact Nat.le_refl _⟩, ⟨by (with_reducible repeat (first | apply Kd.S_alloc | apply Kd.S_drewN | apply Kd.S_drew)); exact HO_4.out⟩, ⟨by repeat (first | (with_reducible first | exact HB.out | apply below_alloc | apply pw_below_drewN | apply below_drew1) | exact HB.out)⟩⟩
              case rest =>
                clear HC12
                try clear c1
                try clear p1
                try clear q1
                try clear hx1
                try clear c2
                try clear c2b0
                try clear c2b1
                try clear p2
                try clear c3
                try clear c3b0
                try clear c3b1
                try clear c5
                try clear c5b0
                try clear c5b1
                try clear p6
                try clear hcv8
                try clear c11
                try clear c11b0
                try clear p11
                try clear q11
                try clear hx11
                try clear c13
                try clear c13b0
                try clear c13b1
                try clear c14
                try clear c14b0
                try clear c15
                try clear c15b0
                try clear c15b1
                try clear c16
                try clear c16b0
                try clear c16b1
                try clear hx110_0
                try clear p110
                try clear p2
                try clear q110
                obtain ⟨kq, x5_11, rfl, HA, HJ11, HO_4, HB⟩ := hcut
                cases kq with
                | zero => exact absurd HA.out (by simp [bulwarkref10_parts.j1])
                | succ kj11 =>
                  have H := HA.out
                  clear HA
                  simp only [bulwarkref10_parts.j1] at H
                  by_cases c17 : (wrap64 ((l0.length : Int) - x5_11)) < 60
                  · rw [if_pos c17] at H
                    have c17b0 : decide ((wrap64 ((l0.length : Int) - x5_11)) < 60) = true := decide_eq_true c17
                    clear c17
                    simp only [Option.some.injEq, Prod.mk.injEq] at H
                    obtain ⟨rfl, rfl⟩ := H
                    go_wp2
                    go_ret2
                    exact ⟨_, by first | rfl | (simp [errW_none, errW_some] <;> rfl) | (simp [*, errW_none, errW_some] <;> rfl), by first | exact Kd.S_nil _ _ _ _ _ | exact Kd.N_nil _ _ _ _ _ | exact Kd.V_nil _ _ _ _ _ | exact Kd.Q_nil _ _ _ _ _ | exact Kd.R_nil _ _ _ _ _, by repeat (first | (with_reducible first | exact HB.out | apply below_alloc | apply pw_below_drewN | apply below_drew1) | exact HB.out)⟩
                  · rw [if_neg c17] at H
                    have c17b0 : decide ((wrap64 ((l0.length : Int) - x5_11)) < 60) = false := decide_eq_false c17
                    clear c17
                    obtain ⟨ji18, hji18⟩ : ∃ j_ : Int, (wrap64 (x5_11 + 48)) = j_ := ⟨_, rfl⟩
                    replace H : (if 0 ≤ (ji18) then (if (ji18) ≤ (wrap64 (x5_11 + 58)) then (if (wrap64 (x5_11 + 58)) ≤ (l0.length : Int) then ((bulwarkref10_size.f kj11 ((l0.take ((wrap64 (x5_11 + 58)) : Int).toNat).drop ((ji18) : Int).toNat)).bind fun bt112 => (if bt112.2 = true then (if 0 ≤ (wrap64 (x5_11 + 58)) then (if (wrap64 (x5_11 + 58)) < (l0.length : Int) then (if (rd l0 (wrap64 (x5_11 + 58))) = 96 then (if 0 ≤ (wrap64 (x5_11 + 59)) then (if (wrap64 (x5_11 + 59)) < (l0.length : Int) then (bulwarkref10_parts.j2 kj11 l0 x4_1 x5_11 bt112.1 ((rd l0 (wrap64 (x5_11 + 59))) != 10)) else (none)) else (none)) else (bulwarkref10_parts.j2 kj11 l0 x4_1 x5_11 bt112.1 true)) else (none)) else (none)) else (bulwarkref10_parts.j2 kj11 l0 x4_1 x5_11 bt112.1 true))) else (none)) else (none)) else (none)) = some (r1, r2) := by first | (rw [hji18] at H; exact H) | (simp only [hji18] at H ⊢; exact H)
                    have hji18w : (IntKind.i64.wrap (x5_11 + 48)) = ji18 := (i64_w _).trans hji18
                    by_cases c19 : 0 ≤ (ji18)
                    · rw [if_pos c19] at H
                      have c19b0 := eq_true c19
                      have c19b1 : decide (0 ≤ (ji18)) = true := decide_eq_true c19
                      clear c19
                      by_cases c20 : (ji18) ≤ (wrap64 (x5_11 + 58))
                      · rw [if_pos c20] at H
                        have c20b0 := eq_true c20
                        have c20b1 : decide ((ji18) ≤ (wrap64 (x5_11 + 58))) = true := decide_eq_true c20
                        by_cases c21 : (wrap64 (x5_11 + 58)) ≤ (l0.length : Int)
                        · rw [if_pos c21] at H
                          have c21b0 := eq_true c21
                          have c21b1 : decide ((wrap64 (x5_11 + 58)) ≤ (l0.length : Int)) = true := decide_eq_true c21
                          replace H := Option.bind_eq_some_iff.mp H
                          obtain ⟨⟨t112, t113⟩, A220, H⟩ := H
                          replace H : (if t113 = true then (if 0 ≤ (wrap64 (x5_11 + 58)) then (if (wrap64 (x5_11 + 58)) < (l0.length : Int) then (if (rd l0 (wrap64 (x5_11 + 58))) = 96 then (if 0 ≤ (wrap64 (x5_11 + 59)) then (if (wrap64 (x5_11 + 59)) < (l0.length : Int) then (bulwarkref10_parts.j2 kj11 l0 x4_1 x5_11 t112 ((rd l0 (wrap64 (x5_11 + 59))) != 10)) else (none)) else (none)) else (bulwarkref10_parts.j2 kj11 l0 x4_1 x5_11 t112 true)) else (none)) else (none)) else (bulwarkref10_parts.j2 kj11 l0 x4_1 x5_11 t112 true)) = some (r1, r2) := H
                          have A22 := Aside0.mk A220
                          clear A220
                          have HC23 := Aside0.mk H
                          clear H
                          obtain ⟨i024, hi024, _, hsz24, _⟩ := info_parts info5
                          obtain ⟨A24, hcut24, hA24, hC24⟩ := print_mid_of (P := Tryd.prog) (Value.int .u8) 0 24 5 .i64 .i64 Tryd.underlying24 hi024 hsz24 A0 c0 l0 (ji18) (wrap64 (x5_11 + 58)) (of_decide_eq_true (by first | (with_reducible assumption) | assumption)) (by first | omega | exact of_decide_eq_true (by first | (with_reducible assumption) | assumption)) (of_decide_eq_true (by first | (with_reducible assumption) | assumption)) HC0.out
                          have HR111 := Aside0.mk (Kd.C_of_reads (h1 := fun _ => rfl) (hA24 _ (Kd.reads_of_C HR0.out)))
                          have HC111 := Aside0.mk hC24
                          clear hA24 hC24 hi024 hsz24
                          go_upto_region 15 with (first | ((with_reducible refine gate_callee (f := 45) rfl ?_); refine goesL_ (some 50) rfl rfl Tryd.func45 (by kernel_rfl) rfl #[.slice A24 ((l0.take ((wrap64 (x5_11 + 58)) : Int).toNat).drop ((ji18) : Int).toNat).length (c0 - (ji18).toNat)] rfl (by (try simp only [List.map_toArray, List.map_cons, List.map_nil]); first | done | (rw [show ((l0.take ((wrap64 (x5_11 + 58)) : Int).toNat).drop ((ji18) : Int).toNat).length = ((wrap64 (x5_11 + 58)).toNat - (ji18).toNat) from (by rw [List.length_drop, List.length_take]; have h_ : ((wrap64 (x5_11 + 58)) : Int) ≤ (l0.length : Int) := of_decide_eq_true (by first | (with_reducible assumption) | assumption); omega)] <;> rfl) | (simp only [hji18]; rfl) | rfl | (simp only [List.length_drop, List.length_take]; rfl)) ?_; (with_reducible refine (bulwarkref10_size.calls kj11 _ _ ((l0.take ((wrap64 (x5_11 + 58)) : Int).toNat).drop ((ji18) : Int).toNat) t112 t113 _ ?side1 ?side2 A22.out).mono ?_); (case side1 => repeat (first | exact (Kd.C_below HR111.out HB.out) | (with_reducible refine Kd.C_alloc ?_ _) | (with_reducible refine Kd.C_drewN ?_ _) | (with_reducible refine Kd.C_drew ?_))); (case side2 => exact HC111.out); rintro e w' ⟨rfl, ⟨nd, rfl⟩⟩; refine ⟨_, rfl, ?_⟩))
                          (try simp only [Act.put, List.setIfInBounds_toArray, List.set_cons_zero, List.set_cons_succ])
                          go_cut [70] (fun v70 wc => ∃ (kq : Nat) (x70_22 : Bool), v70 = .bool x70_22 ∧ Aside0 (bulwarkref10_parts.j2 kq l0 x4_1 x5_11 t112 x70_22 = some (r1, r2)) ∧ Aside0 (kq ≤ kj11) ∧ Aside0 (Kd.S k64 64 wc w.heap.size (fun _ => True) u4 x4_1) ∧ Aside0 (Below w.heap.size w wc))
                          case first =>
                            have H := HC23.out
                            clear HC23
                            by_cases c25 : t113 = true
                            · subst c25
                              have H1 : (if 0 ≤ (wrap64 (x5_11 + 58)) then (if (wrap64 (x5_11 + 58)) < (l0.length : Int) then (if (rd l0 (wrap64 (x5_11 + 58))) = 96 then (if 0 ≤ (wrap64 (x5_11 + 59)) then (if (wrap64 (x5_11 + 59)) < (l0.length : Int) then (bulwarkref10_parts.j2 kj11 l0 x4_1 x5_11 t112 ((rd l0 (wrap64 (x5_11 + 59))) != 10)) else (none)) else (none)) else (bulwarkref10_parts.j2 kj11 l0 x4_1 x5_11 t112 true)) else (none)) else (none)) = some (r1, r2) := by rw [if_pos rfl] at H; exact H
                              clear H
                              have H := H1
                              clear H1
                              obtain ⟨ji26, hji26⟩ : ∃ j_ : Int, (wrap64 (x5_11 + 58)) = j_ := ⟨_, rfl⟩
                              replace H : (if 0 ≤ (ji26) then (if (ji26) < (l0.length : Int) then (if (rd l0 (ji26)) = 96 then (if 0 ≤ (wrap64 (x5_11 + 59)) then (if (wrap64 (x5_11 + 59)) < (l0.length : Int) then (bulwarkref10_parts.j2 kj11 l0 x4_1 x5_11 t112 ((rd l0 (wrap64 (x5_11 + 59))) != 10)) else (none)) else (none)) else (bulwarkref10_parts.j2 kj11 l0 x4_1 x5_11 t112 true)) else (none)) else (none)) = some (r1, r2) := by first | (rw [hji26] at H; exact H) | (simp only [hji26] at H ⊢; exact H)
                              (try rw [hji26] at c20b0)
                              (try rw [hji26] at c20b1)
                              (try rw [hji26] at c20)
                              (try rw [hji26] at c21b0)
                              (try rw [hji26] at c21b1)
                              (try rw [hji26] at c21)
                              have hji26w : (IntKind.i64.wrap (x5_11 + 58)) = ji26 := (i64_w _).trans hji26
                              by_cases c27 : 0 ≤ (ji26)
                              · rw [if_pos c27] at H
                                have c27b0 : decide (0 ≤ (ji26)) = true := decide_eq_true c27
                                clear c27
                                (first | rw [c27b0] | (simp only [i64_w, i32_w]; rw [c27b0]) | skip)
                                by_cases c28 : (ji26) < (l0.length : Int)
                                · rw [if_pos c28] at H
                                  have c28b0 : decide ((ji26) < (l0.length : Int)) = true := decide_eq_true c28
                                  clear c28
                                  by_cases c29 : (rd l0 (ji26)) = 96
                                  · rw [if_pos c29] at H
                                    have c29b0 : ((rd l0 (ji26)) == 96) = true := beq_iff_eq.mpr c29
                                    have c29b1 : ((rd l0 (ji26)) != 96) = false := bne_eq_false_iff_eq.mpr c29
                                    clear c29
                                    obtain ⟨ji30, hji30⟩ : ∃ j_ : Int, (wrap64 (x5_11 + 59)) = j_ := ⟨_, rfl⟩
                                    replace H : (if 0 ≤ (ji30) then (if (ji30) < (l0.length : Int) then (bulwarkref10_parts.j2 kj11 l0 x4_1 x5_11 t112 ((rd l0 (ji30)) != 10)) else (none)) else (none)) = some (r1, r2) := by first | (rw [hji30] at H; exact H) | (simp only [hji30] at H ⊢; exact H)
                                    have hji30w : (IntKind.i64.wrap (x5_11 + 59)) = ji30 := (i64_w _).trans hji30
                                    by_cases c31 : 0 ≤ (ji30)
                                    · rw [if_pos c31] at H
                                      have c31b0 : decide (0 ≤ (ji30)) = true := decide_eq_true c31
                                      clear c31
                                      by_cases c32 : (ji30) < (l0.length : Int)
                                      · rw [if_pos c32] at H
                                        have c32b0 : decide ((ji30) < (l0.length : Int)) = true := decide_eq_true c32
                                        clear c32
                                        have H' := Aside0.mk H
                                        clear H
                                        have p114 : 0 ≤ ((ji26) : Int) := of_decide_eq_true (by first | (with_reducible assumption) | assumption)
                                        have q114 : (ji26) < (l0.length : Int) := of_decide_eq_true (by first | (with_reducible assumption) | assumption)
                                        obtain ⟨ad114, e114, hx114_0⟩ := Kd.at_int HR0.out (ji26) p114 q114
                                        cases e114
                                        replace hx114_0 := (HB.out.cell (World.block_lt_of_cell? w _ hx114_0)).trans hx114_0
                                        replace p114 := eq_true p114
                                        replace q114 := eq_true q114
                                        have p115 : 0 ≤ ((ji30) : Int) := of_decide_eq_true (by first | (with_reducible assumption) | assumption)
                                        have q115 : (ji30) < (l0.length : Int) := of_decide_eq_true (by first | (with_reducible assumption) | assumption)
                                        obtain ⟨ad115, e115, hx115_0⟩ := Kd.at_int HR0.out (ji30) p115 q115
                                        obtain rfl : ad114 = ad115 := (by injection e115)
                                        replace hx115_0 := (HB.out.cell (World.block_lt_of_cell? w _ hx115_0)).trans hx115_0
                                        replace p115 := eq_true p115
                                        replace q115 := eq_true q115
                                        go_wp2
                                        go_meet
                                        case rel => exact ⟨_, (((rd l0 (ji30)) != 10)), (by first | rfl | (simp; done) | (simp only [← hji30] <;> (first | rfl | simp)) | (simp [*]; done)), H', ⟨by have := HK1.out; have := HJ11.out; first | omega | exact Nat.le_refl _⟩, ⟨by (with_reducible repeat (first | apply Kd.S_alloc | apply Kd.S_drewN | apply Kd.S_drew)); exact HO_4.out⟩, ⟨by repeat (first | (with_reducible first | exact HB.out | apply below_alloc | apply pw_below_drewN | apply below_drew1) | exact HB.out)⟩⟩
                                      · rw [if_neg c32] at H
                                        exact absurd H (by simp)
                                    · rw [if_neg c31] at H
                                      exact absurd H (by simp)
                                  · rw [if_neg c29] at H
                                    have c29b0 : ((rd l0 (ji26)) == 96) = false := beq_eq_false_iff_ne.mpr c29
                                    have c29b1 : ((rd l0 (ji26)) != 96) = true := bne_iff_ne.mpr c29
                                    have H' := Aside0.mk H
                                    clear H
                                    have p114 : 0 ≤ ((ji26) : Int) := of_decide_eq_true (by first | (with_reducible assumption) | assumption)
                                    have q114 : (ji26) < (l0.length : Int) := of_decide_eq_true (by first | (with_reducible assumption) | assumption)
                                    obtain ⟨ad114, e114, hx114_0⟩ := Kd.at_int HR0.out (ji26) p114 q114
                                    cases e114
                                    replace hx114_0 := (HB.out.cell (World.block_lt_of_cell? w _ hx114_0)).trans hx114_0
                                    replace p114 := eq_true p114
                                    replace q114 := eq_true q114
                                    go_wp2
                                    go_meet
                                    case rel => exact ⟨_, (true), (by first | rfl | (simp; done) | (simp [*]; done)), H', ⟨by have := HK1.out; have := HJ11.out; first | omega | exact Nat.le_refl _⟩, ⟨by (with_reducible repeat (first | apply Kd.S_alloc | apply Kd.S_drewN | apply Kd.S_drew)); exact HO_4.out⟩, ⟨by repeat (first | (with_reducible first | exact HB.out | apply below_alloc | apply pw_below_drewN | apply below_drew1) | exact HB.out)⟩⟩
                                · rw [if_neg c28] at H
                                  exact absurd H (by simp)
                              · rw [if_neg c27] at H
                                exact absurd H (by simp)
                            · replace c25 := Bool.eq_false_iff.mpr c25
                              subst c25
                              have H1 : (bulwarkref10_parts.j2 kj11 l0 x4_1 x5_11 t112 true) = some (r1, r2) := by rw [if_neg (show ¬ (false = true) by decide)] at H; exact H
                              clear H
                              have H := H1
                              clear H1
                              have H' := Aside0.mk H
                              clear H
                              go_wp2
                              go_meet
                              case rel => exact ⟨_, (true), (by first | rfl | (simp; done) | (simp [*]; done)), H', ⟨by have := HK1.out; have := HJ11.out; first | omega | exact Nat.le_refl _⟩, ⟨by (with_reducible repeat (first | apply Kd.S_alloc | apply Kd.S_drewN | apply Kd.S_drew)); exact HO_4.out⟩, ⟨by repeat (first | (with_reducible first | exact HB.out | apply below_alloc | apply pw_below_drewN | apply below_drew1) | exact HB.out)⟩⟩
                          case rest =>
                            clear HC23
                            try clear c1
                            try clear p1
                            try clear q1
                            try clear hx1
                            try clear c2
                            try clear c2b0
                            try clear c2b1
                            try clear p2
                            try clear c3
                            try clear c3b0
                            try clear c3b1
                            try clear c4
                            try clear c5
                            try clear c5b0
                            try clear c5b1
                            try clear p6
                            try clear hcv8
                            try clear c11
                            try clear c11b0
                            try clear p11
                            try clear q11
                            try clear hx11
                            try clear c13
                            try clear c13b0
                            try clear c13b1
                            try clear c14
                            try clear c14b0
                            try clear c15
                            try clear c15b0
                            try clear c15b1
                            try clear c16
                            try clear c16b0
                            try clear c16b1
                            try clear c17
                            try clear c17b0
                            try clear c19
                            try clear c19b0
                            try clear c19b1
                            try clear c20
                            try clear c20b0
                            try clear c20b1
                            try clear c21
                            try clear c21b0
                            try clear c21b1
                            try clear c25
                            try clear c26
                            try clear c27
                            try clear c27b0
                            try clear c28
                            try clear c28b0
                            try clear c29
                            try clear c29b0
                            try clear c29b1
                            try clear c31
                            try clear c31b0
                            try clear c32
                            try clear c32b0
                            try clear hx110_0
                            try clear hx114_0
                            try clear hx115_0
                            try clear p1
                            try clear p11
                            try clear p110
                            try clear p114
                            try clear p115
                            try clear p2
                            try clear p6
                            try clear q1
                            try clear q11
                            try clear q110
                            try clear q114
                            try clear q115
                            obtain ⟨kq, x70_22, rfl, HA, HJ22, HO_4, HB⟩ := hcut
                            cases kq with
                            | zero => exact absurd HA.out (by simp [bulwarkref10_parts.j2])
                            | succ kj22 =>
                              have H := HA.out
                              clear HA
                              simp only [bulwarkref10_parts.j2] at H
                              by_cases c33 : x70_22 = true
                              · subst c33
                                have H1 : (some (([] : List (S64)), 5)) = some (r1, r2) := by rw [if_pos rfl] at H; exact H
                                clear H
                                have H := H1
                                clear H1
                                simp only [Option.some.injEq, Prod.mk.injEq] at H
                                obtain ⟨rfl, rfl⟩ := H
                                go_wp2
                                go_ret2
                                exact ⟨_, by first | rfl | (simp [errW_none, errW_some] <;> rfl) | (simp only [← hji18]; first | rfl | (simp [errW_none, errW_some] <;> rfl)) | (simp [*, errW_none, errW_some] <;> rfl), by first | exact Kd.S_nil _ _ _ _ _ | exact Kd.N_nil _ _ _ _ _ | exact Kd.V_nil _ _ _ _ _ | exact Kd.Q_nil _ _ _ _ _ | exact Kd.R_nil _ _ _ _ _, by repeat (first | (with_reducible first | exact HB.out | apply below_alloc | apply pw_below_drewN | apply below_drew1) | exact HB.out)⟩
                              · replace c33 := Bool.eq_false_iff.mpr c33
                                subst c33
                                have H1 : (if t112 > (wrap64 ((wrap64 ((l0.length : Int) - x5_11)) - 60)) then (some (([] : List (S64)), 4)) else (if 0 ≤ (wrap64 (x5_11 + 60)) then (if (wrap64 (x5_11 + 60)) ≤ (wrap64 ((wrap64 (x5_11 + 60)) + t112)) then (if (wrap64 ((wrap64 (x5_11 + 60)) + t112)) ≤ (l0.length : Int) then (if ([] : List Int).length + ((l0.take ((wrap64 ((wrap64 (x5_11 + 60)) + t112)) : Int).toNat).drop ((wrap64 (x5_11 + 60)) : Int).toNat).length < 140737488355328 then (if 0 ≤ x5_11 then (if x5_11 ≤ (wrap64 (x5_11 + 16)) then (if (wrap64 (x5_11 + 16)) ≤ (l0.length : Int) then ((bulwarkref10_trimmed.f kj22 ((l0.take ((wrap64 (x5_11 + 16)) : Int).toNat).drop (x5_11 : Int).toNat)).bind fun t121 => (if x4_1.length < 2932031007402 then (bulwarkref10_parts.l0 kj22 l0 (x4_1 ++ [(⟨t121, x5_11, (([] : List Int) ++ ((l0.take ((wrap64 ((wrap64 (x5_11 + 60)) + t112)) : Int).toNat).drop ((wrap64 (x5_11 + 60)) : Int).toNat))⟩ : S64)]) (wrap64 ((wrap64 (x5_11 + 60)) + t112))) else (none))) else (none)) else (none)) else (none)) else (none)) else (none)) else (none)) else (none))) = some (r1, r2) := by rw [if_neg (show ¬ (false = true) by decide)] at H; exact H
                                clear H
                                have H := H1
                                clear H1
                                by_cases c34 : t112 > (wrap64 ((wrap64 ((l0.length : Int) - x5_11)) - 60))
                                · rw [if_pos c34] at H
                                  have c34b0 : decide ((wrap64 ((wrap64 ((l0.length : Int) - x5_11)) - 60)) < t112) = true := decide_eq_true c34
                                  clear c34
                                  simp only [Option.some.injEq, Prod.mk.injEq] at H
                                  obtain ⟨rfl, rfl⟩ := H
                                  go_wp2
                                  go_ret2
                                  exact ⟨_, by first | rfl | (simp [errW_none, errW_some] <;> rfl) | (simp only [← hji18]; first | rfl | (simp [errW_none, errW_some] <;> rfl)) | (simp [*, errW_none, errW_some] <;> rfl), by first | exact Kd.S_nil _ _ _ _ _ | exact Kd.N_nil _ _ _ _ _ | exact Kd.V_nil _ _ _ _ _ | exact Kd.Q_nil _ _ _ _ _ | exact Kd.R_nil _ _ _ _ _, by repeat (first | (with_reducible first | exact HB.out | apply below_alloc | apply pw_below_drewN | apply below_drew1) | exact HB.out)⟩
                                · rw [if_neg c34] at H
                                  have c34b0 : decide ((wrap64 ((wrap64 ((l0.length : Int) - x5_11)) - 60)) < t112) = false := decide_eq_false c34
                                  clear c34
                                  obtain ⟨ji35, hji35⟩ : ∃ j_ : Int, (wrap64 (x5_11 + 60)) = j_ := ⟨_, rfl⟩
                                  replace H : (if 0 ≤ (ji35) then (if (ji35) ≤ (wrap64 ((ji35) + t112)) then (if (wrap64 ((ji35) + t112)) ≤ (l0.length : Int) then (if ([] : List Int).length + ((l0.take ((wrap64 ((ji35) + t112)) : Int).toNat).drop ((ji35) : Int).toNat).length < 140737488355328 then (if 0 ≤ x5_11 then (if x5_11 ≤ (wrap64 (x5_11 + 16)) then (if (wrap64 (x5_11 + 16)) ≤ (l0.length : Int) then ((bulwarkref10_trimmed.f kj22 ((l0.take ((wrap64 (x5_11 + 16)) : Int).toNat).drop (x5_11 : Int).toNat)).bind fun t121 => (if x4_1.length < 2932031007402 then (bulwarkref10_parts.l0 kj22 l0 (x4_1 ++ [(⟨t121, x5_11, (([] : List Int) ++ ((l0.take ((wrap64 ((ji35) + t112)) : Int).toNat).drop ((ji35) : Int).toNat))⟩ : S64)]) (wrap64 ((ji35) + t112))) else (none))) else (none)) else (none)) else (none)) else (none)) else (none)) else (none)) else (none)) = some (r1, r2) := by first | (rw [hji35] at H; exact H) | (simp only [hji35] at H ⊢; exact H)
                                  have hji35w : (IntKind.i64.wrap (x5_11 + 60)) = ji35 := (i64_w _).trans hji35
                                  by_cases c36 : 0 ≤ (ji35)
                                  · rw [if_pos c36] at H
                                    have c36b0 := eq_true c36
                                    have c36b1 : decide (0 ≤ (ji35)) = true := decide_eq_true c36
                                    clear c36
                                    by_cases c37 : (ji35) ≤ (wrap64 ((ji35) + t112))
                                    · rw [if_pos c37] at H
                                      have c37b0 := eq_true c37
                                      have c37b1 : decide ((ji35) ≤ (wrap64 ((ji35) + t112))) = true := decide_eq_true c37
                                      by_cases c38 : (wrap64 ((ji35) + t112)) ≤ (l0.length : Int)
                                      · rw [if_pos c38] at H
                                        have c38b0 := eq_true c38
                                        have c38b1 : decide ((wrap64 ((ji35) + t112)) ≤ (l0.length : Int)) = true := decide_eq_true c38
                                        by_cases c39 : ([] : List Int).length + ((l0.take ((wrap64 ((ji35) + t112)) : Int).toNat).drop ((ji35) : Int).toNat).length < 140737488355328
                                        · rw [if_pos c39] at H
                                          have LMc39 := Aside0.mk c39
                                          clear c39
                                          obtain ⟨y117, hy117⟩ : ∃ y_ : List Int, y_ = (([] : List Int) ++ ((l0.take ((wrap64 ((ji35) + t112)) : Int).toNat).drop ((ji35) : Int).toNat)) := ⟨_, rfl⟩
                                          replace H : (if 0 ≤ x5_11 then (if x5_11 ≤ (wrap64 (x5_11 + 16)) then (if (wrap64 (x5_11 + 16)) ≤ (l0.length : Int) then ((bulwarkref10_trimmed.f kj22 ((l0.take ((wrap64 (x5_11 + 16)) : Int).toNat).drop (x5_11 : Int).toNat)).bind fun t121 => (if x4_1.length < 2932031007402 then (bulwarkref10_parts.l0 kj22 l0 (x4_1 ++ [(⟨t121, x5_11, y117⟩ : S64)]) (wrap64 ((ji35) + t112))) else (none))) else (none)) else (none)) else (none)) = some (r1, r2) := by first | (rw [hy117]; with_reducible exact H) | (have H2_ := (Option.bind_some _ _).symm.trans H; rw [hy117]; with_reducible exact H2_) | (have H2_ := (Option.bind_some _ _).symm.trans H; with_reducible exact H2_) | with_reducible exact H | (rw [hy117]; exact H) | exact H
                                          have Ny117 := Aside0.mk hy117
                                          clear hy117
                                          by_cases c40 : 0 ≤ x5_11
                                          · rw [if_pos c40] at H
                                            have c40b0 := eq_true c40
                                            have c40b1 : decide (0 ≤ x5_11) = true := decide_eq_true c40
                                            clear c40
                                            by_cases c41 : x5_11 ≤ (wrap64 (x5_11 + 16))
                                            · rw [if_pos c41] at H
                                              have c41b0 := eq_true c41
                                              have c41b1 : decide (x5_11 ≤ (wrap64 (x5_11 + 16))) = true := decide_eq_true c41
                                              by_cases c42 : (wrap64 (x5_11 + 16)) ≤ (l0.length : Int)
                                              · rw [if_pos c42] at H
                                                have c42b0 := eq_true c42
                                                have c42b1 : decide ((wrap64 (x5_11 + 16)) ≤ (l0.length : Int)) = true := decide_eq_true c42
                                                replace H := Option.bind_eq_some_iff.mp H
                                                obtain ⟨t121, A430, H⟩ := H
                                                replace H : (if x4_1.length < 2932031007402 then (bulwarkref10_parts.l0 kj22 l0 (x4_1 ++ [(⟨t121, x5_11, y117⟩ : S64)]) (wrap64 ((ji35) + t112))) else (none)) = some (r1, r2) := H
                                                have A43 := Aside0.mk A430
                                                clear A430
                                                by_cases c44 : x4_1.length < 2932031007402
                                                · rw [if_pos c44] at H
                                                  have LMc44 := Aside0.mk c44
                                                  clear c44
                                                  obtain ⟨y122, hy122⟩ : ∃ y_ : List (S64), y_ = (x4_1 ++ [(⟨t121, x5_11, y117⟩ : S64)]) := ⟨_, rfl⟩
                                                  replace H : (bulwarkref10_parts.l0 kj22 l0 y122 (wrap64 ((ji35) + t112))) = some (r1, r2) := by first | (rw [hy122]; with_reducible exact H) | (have H2_ := (Option.bind_some _ _).symm.trans H; rw [hy122]; with_reducible exact H2_) | (have H2_ := (Option.bind_some _ _).symm.trans H; with_reducible exact H2_) | with_reducible exact H | (rw [hy122]; exact H) | exact H
                                                  have Ny122 := Aside0.mk hy122
                                                  clear hy122
                                                  have H' := Aside0.mk H
                                                  clear H
                                                  obtain ⟨i045, hi045, _, hsz45, _⟩ := info_parts info5
                                                  obtain ⟨A45, hcut45, hA45, hC45⟩ := print_mid_of (P := Tryd.prog) (Value.int .u8) 0 24 5 .i64 .i64 Tryd.underlying24 hi045 hsz45 A0 c0 l0 (ji35) (wrap64 ((ji35) + t112)) (of_decide_eq_true (by first | (with_reducible assumption) | assumption)) (by first | omega | exact of_decide_eq_true (by first | (with_reducible assumption) | assumption)) (of_decide_eq_true (by first | (with_reducible assumption) | assumption)) HC0.out
                                                  have HR116 := Aside0.mk (Kd.C_of_reads (h1 := fun _ => rfl) (hA45 _ (Kd.reads_of_C HR0.out)))
                                                  have HC116 := Aside0.mk hC45
                                                  clear hA45 hC45 hi045 hsz45
                                                  go_wp2_with (first | ((with_reducible refine gate_builtin (b := .append) (xs := #[.tmp 78, .tmp 86]) rfl ?_); (try (refine gate_guard (by rfl) ?_; dsimp only)); at_builtin; refine Kd.R_append_rows (Kd.int .u8) (w0 := w) w.heap.size rfl (.tmp 78) (.tmp 86) 24 5 (.int .u8 0) 1 rfl Tryd.underlying24 info5 rfl (by decide) (by omega) (.slice none 0 0) ([] : List Int) ((l0.take ((wrap64 ((ji35) + t112)) : Int).toNat).drop ((ji35) : Int).toNat) _ _ _ (fun _ => True) (fun _ => False) rfl rfl ?aO ?aR (fun _ _ h => h) (fun _ h => h.elim) ?aF ?aB ?aS ?aL ?_; (case aR => first | (rw [← show ((l0.take ((wrap64 ((ji35) + t112)) : Int).toNat).drop ((ji35) : Int).toNat).length = ((wrap64 ((ji35) + t112)).toNat - (ji35).toNat) from (by rw [List.length_drop, List.length_take]; have h_ : ((wrap64 ((ji35) + t112)) : Int) ≤ (l0.length : Int) := of_decide_eq_true (by first | (with_reducible assumption) | assumption); omega)]; repeat (first | exact (Kd.C_below HR116.out HB.out) | (with_reducible refine Kd.C_alloc ?_ _) | (with_reducible refine Kd.C_drewN ?_ _) | (with_reducible refine Kd.C_drew ?_))) | (repeat (first | exact (Kd.C_below HR116.out HB.out) | (with_reducible refine Kd.C_alloc ?_ _) | (with_reducible refine Kd.C_drewN ?_ _) | (with_reducible refine Kd.C_drew ?_)))); (case aB => exact (by repeat (first | (with_reducible first | exact HB.out | apply below_alloc | apply pw_below_drewN | apply below_drew1) | exact HB.out))); (case aF => exact (fun _ _ => trivial)); (case aO => exact ((Kd.R_nil _ _ _ _ (fun _ => True)))); (case aS => exact (below_size (by repeat (first | (with_reducible first | exact HB.out | apply below_alloc | apply pw_below_drewN | apply below_drew1) | exact HB.out)))); (case aL => have := LMc39.out; have hlx_ := (show ((l0.take ((wrap64 ((ji35) + t112)) : Int).toNat).drop ((ji35) : Int).toNat).length = ((wrap64 ((ji35) + t112)).toNat - (ji35).toNat) from (by rw [List.length_drop, List.length_take]; have h_ : ((wrap64 ((ji35) + t112)) : Int) ≤ (l0.length : Int) := of_decide_eq_true (by first | (with_reducible assumption) | assumption); omega)); omega); intro v118 w46 ho hb hg hat; rw [← Ny117.out] at ho; have n0_ := Aside0.mk (Kd.S_after (Kd.S_apart_nil (by (with_reducible repeat (first | apply Kd.S_alloc | apply Kd.S_drewN | apply Kd.S_drew)); exact HO_4.out)) hg hat); have n1_ := Aside0.mk (hb); have n2_ := Aside0.mk (ho); clear HO_4; clear HB; have HO_4 := n0_; have HB := n1_; have HO119 := n2_; clear n0_ n1_ n2_; clear ho hb hg hat; obtain ⟨i047, hi047, _, hsz47, _⟩ := info_parts info5; obtain ⟨A47, hcut47, hA47, hC47⟩ := print_mid_of (P := Tryd.prog) (Value.int .u8) 0 24 5 .i64 .i64 Tryd.underlying24 hi047 hsz47 A0 c0 l0 x5_11 (wrap64 (x5_11 + 16)) (of_decide_eq_true (by first | (with_reducible assumption) | assumption)) (by first | omega | exact of_decide_eq_true (by first | (with_reducible assumption) | assumption)) (of_decide_eq_true (by first | (with_reducible assumption) | assumption)) HC0.out; have HR120 := Aside0.mk (Kd.C_of_reads (h1 := fun _ => rfl) (hA47 _ (Kd.reads_of_C HR0.out))); have HC120 := Aside0.mk hC47; clear hA47 hC47 hi047 hsz47) | ((with_reducible refine gate_callee (f := 46) rfl ?_); refine goesL_ (some 94) rfl rfl Tryd.func46 (by kernel_rfl) rfl #[.slice A47 ((l0.take ((wrap64 (x5_11 + 16)) : Int).toNat).drop (x5_11 : Int).toNat).length (c0 - x5_11.toNat)] rfl (by (try simp only [List.map_toArray, List.map_cons, List.map_nil]); first | done | (rw [show ((l0.take ((wrap64 (x5_11 + 16)) : Int).toNat).drop (x5_11 : Int).toNat).length = ((wrap64 (x5_11 + 16)).toNat - x5_11.toNat) from (by rw [List.length_drop, List.length_take]; have h_ : ((wrap64 (x5_11 + 16)) : Int) ≤ (l0.length : Int) := of_decide_eq_true (by first | (with_reducible assumption) | assumption); omega)] <;> rfl) | rfl | (simp only [List.length_drop, List.length_take]; rfl)) ?_; (with_reducible refine (bulwarkref10_trimmed.calls kj22 _ _ ((l0.take ((wrap64 (x5_11 + 16)) : Int).toNat).drop (x5_11 : Int).toNat) t121 _ ?side1 ?side2 A43.out).mono ?_); (case side1 => repeat (first | exact (Kd.C_below HR120.out HB.out) | (with_reducible refine Kd.C_alloc ?_ _) | (with_reducible refine Kd.C_drewN ?_ _) | (with_reducible refine Kd.C_drew ?_))); (case side2 => exact HC120.out); rintro e w' ⟨rfl, ⟨nd, rfl⟩⟩; refine ⟨_, rfl, ?_⟩; obtain ⟨Ao48, co48, eo48⟩ := Kd.R_slice HO119.out; subst eo48) | ((with_reducible refine gate_builtin (b := .append) (xs := #[.tmp 88, .tmp 98]) rfl ?_); (try (refine gate_guard (by rfl) ?_; dsimp only)); at_builtin; refine Kd.S_append k64 (w0 := w) w.heap.size rfl (.tmp 88) (.tmp 98) 60 64 (.agg #[(.string ⟨#[]⟩), (.int .i64 0), (.slice none 0 0)]) 48 rfl Tryd.underlying60 info64 rfl (by decide) (by omega) u4 x4_1 (⟨t121, x5_11, y117⟩ : S64) [.string t121, .int .i64 x5_11, .slice Ao48 y117.length co48] (fun _ => True) (fun k_ => some k_ = (.slice Ao48 y117.length co48 : Value).ownBlock) rfl rfl ?aP (fun k_ hk_ => ((Kd.R_mono (ok' := fun k_ => ((fun _ => True)) k_ ∧ some k_ ≠ (u4 : Value).ownBlock) (Kd.R_apart' (HO119.out) (Kd.S_typed HO_4.out) (by decide)) (fun k_ hk => ⟨trivial, hk.2⟩))).1 k_ hk_.symm) ?aF ?aO ?aB ?aS ?aL ?_; (case aP => exact k64_mkM _ _ _ (⟨t121, x5_11, y117⟩ : S64) (Kd.R_mono (Kd.R_tight rfl (Kd.R_mono (ok' := fun k_ => ((fun _ => True)) k_ ∧ some k_ ≠ (u4 : Value).ownBlock) (Kd.R_apart' (HO119.out) (Kd.S_typed HO_4.out) (by decide)) (fun k_ hk => ⟨trivial, hk.2⟩))) (fun _ h_ => h_))); (case aB => exact (by repeat (first | (with_reducible first | exact HB.out | apply below_alloc | apply pw_below_drewN | apply below_drew1) | exact HB.out))); (case aF => exact (fun _ _ => trivial)); (case aO => exact (by (with_reducible repeat (first | apply Kd.S_alloc | apply Kd.S_drewN | apply Kd.S_drew)); exact Kd.S_mono HO_4.out (fun k_ hk => ⟨trivial, fun e_ => hk.2 e_⟩))); (case aS => exact (below_size (by repeat (first | (with_reducible first | exact HB.out | apply below_alloc | apply pw_below_drewN | apply below_drew1) | exact HB.out)))); (case aL => have := LMc44.out; omega); intro v123 w49 ho hb hg hat; rw [← Ny122.out] at ho; have n0_ := Aside0.mk (hb); have n1_ := Aside0.mk (ho); clear HB; clear HO_4; clear HO119; have HB := n0_; have HO124 := n1_; clear n0_ n1_; clear ho hb hg hat))
                                                  go_roundg kj22
                                                  case measure => have := HK1.out; have := HJ11.out; have := HJ22.out; omega
                                                  case rel => exact ⟨(y122), (wrap64 ((ji35) + t112)), (by first | rfl | (simp; done) | (simp only [← hji35] <;> (first | rfl | simp)) | (simp [*]; done)), H', ⟨by have := HK1.out; have := HJ11.out; have := HJ22.out; omega⟩, ⟨by (with_reducible repeat (first | apply Kd.S_alloc | apply Kd.S_drewN | apply Kd.S_drew)); exact HO124.out⟩, ⟨by repeat (first | (with_reducible first | exact HB.out | apply below_alloc | apply pw_below_drewN | apply below_drew1) | exact HB.out)⟩⟩
                                                · rw [if_neg c44] at H
                                                  exact absurd H (by simp)
                                              · rw [if_neg c42] at H
                                                exact absurd H (by simp)
                                            · rw [if_neg c41] at H
                                              exact absurd H (by simp)
                                          · rw [if_neg c40] at H
                                            exact absurd H (by simp)
                                        · rw [if_neg c39] at H
                                          exact absurd H (by simp)
                                      · rw [if_neg c38] at H
                                        exact absurd H (by simp)
                                    · rw [if_neg c37] at H
                                      exact absurd H (by simp)
                                  · rw [if_neg c36] at H
                                    exact absurd H (by simp)
                        · rw [if_neg c21] at H
                          exact absurd H (by simp)
                      · rw [if_neg c20] at H
                        exact absurd H (by simp)
                    · rw [if_neg c19] at H
                      exact absurd H (by simp)
            · rw [if_neg c11] at H
              have c11b0 : decide (x5_1 < (l0.length : Int)) = false := decide_eq_false c11
              clear c11
              simp only [Option.some.injEq, Prod.mk.injEq] at H
              obtain ⟨rfl, rfl⟩ := H
              go_wp2
              go_ret2
              exact ⟨_, by first | rfl | (simp [errW_none, errW_some] <;> rfl) | (simp [*, errW_none, errW_some] <;> rfl), by (with_reducible repeat (first | apply Kd.S_alloc | apply Kd.S_drewN | apply Kd.S_drew)); exact HO_4.out, by repeat (first | (with_reducible first | exact HB.out | apply below_alloc | apply pw_below_drewN | apply below_drew1) | exact HB.out)⟩
      · rw [if_neg c5] at H
        have c5b0 : ((strOfNums (l0.take 8)).toList == t109.toList) = false := beq_eq_false_iff_ne.mpr c5
        have c5b1 : ((strOfNums (l0.take 8)).toList != t109.toList) = true := bne_iff_ne.mpr c5
        simp only [Option.some.injEq, Prod.mk.injEq] at H
        obtain ⟨rfl, rfl⟩ := H
        go_enter Tryd.func32, Tryd.ntmps32
        try go_wp2
        have n0_ := Aside0.mk (below_drew1 HB.out)
        clear HB
        have HB := n0_
        clear n0_
        obtain ⟨i051, hi051, _, hsz51, _⟩ := info_parts info5
        obtain ⟨hcut51, hA51, hC51⟩ := print_take_of (P := Tryd.prog) (Value.int .u8) 0 24 5 .i64 Tryd.underlying24 hi051 hsz51 A0 c0 l0 8 (by omega) (of_decide_eq_true (by first | (with_reducible assumption) | assumption)) HC0.out
        have HR108 := Aside0.mk (Kd.C_of_reads (h1 := fun _ => rfl) (hA51 _ (Kd.reads_of_C HR0.out)))
        have HC108 := Aside0.mk hC51
        clear hA51 hC51 hi051 hsz51
        have hcv52 : ∀ W, Below w.heap.size w W → (convert 24 9 (.slice A0 (min 8 l0.length) c0)).run Tryd.prog W = .ok (.string (strOfNums (l0.take 8))) W := fun W hW => by have h := Kd.C_string (P := Tryd.prog) (A := A0) (c := c0) Tryd.underlying24 Tryd.underlying5 Tryd.underlying9 (Kd.C_below HR108.out hW); rw [List.length_take] at h; exact h
        refine start_ (n := 5) (S := fun w' => Below w.heap.size w w') (ds := []) #[false, false, false, false, false] (by kernel_rfl) rfl rfl HB.out (fun hHeld => ?_)
        generalize w.drew = w50 at HB HR108 hHeld ⊢
        refine pure_ (i := 0) (N := some 12) (v := ?_) (a' := ?_) #[true, false, false, false, false] rfl rfl (by kernel_rfl) (fun _ _ _ h => h) (Or.inl ⟨by rfl, ?_⟩) ?_ ?_
        rotate_left
        · intro w'
          go_simp
          with_reducible rfl
        rotate_left
        · simp only [Act.put, List.setIfInBounds_toArray, List.set_cons_zero, List.set_cons_succ, i64_w, i32_w]
          rfl
        refine pure_ (i := 1) (N := some 13) (v := ?_) (a' := ?_) #[true, true, false, false, false] rfl rfl (by kernel_rfl) (fun _ _ _ h => h) (Or.inl ⟨by rfl, ?_⟩) ?_ ?_
        rotate_left
        · intro w'
          go_simp
          with_reducible rfl
        rotate_left
        · simp only [Act.put, List.setIfInBounds_toArray, List.set_cons_zero, List.set_cons_succ, i64_w, i32_w]
          rfl
        refine take_ (i := 2) (N := some 14) (v := ?_) (a' := ?_) #[true, true, true, false, false] rfl rfl (by kernel_rfl) (fun _ _ _ h => h) (Or.inl ⟨by rfl, ?_⟩) hHeld ?_ ?_
        rotate_left
        · intro w' s0
          have hq := hcv52 w' s0
          go_simp
          with_reducible rfl
        rotate_left
        · simp only [Act.put, List.setIfInBounds_toArray, List.set_cons_zero, List.set_cons_succ, i64_w, i32_w]
          rfl
        refine one_ (i := 3) (N := some 15) #[true, true, true, true, false] rfl rfl (by kernel_rfl) (by decide) (fun K hK => ?_)
        refine goes_ Tryd.func26 (by kernel_rfl) rfl #[] (by rfl) rfl rfl (by (try simp only [List.map_toArray, List.map_cons, List.map_nil]); first | done | rfl | (simp only [List.length_drop, List.length_take]; rfl)) ?_
        with_reducible refine (bulwarkref10_magic.calls  t109 _ A4.out).mono ?_
        rintro e w53 ⟨rfl, hb⟩
        refine ⟨_, rfl, ?_⟩
        have n0_ := Aside0.mk (below_step (by repeat (first | (with_reducible first | exact HB.out | apply below_alloc | apply pw_below_drewN | apply below_drew1) | exact HB.out)) hb)
        clear HB
        have HB := n0_
        clear n0_
        (try clear hb)
        (try clear hb2)
        (try clear hk)
        (try clear hi)
        refine hK.out _ _ HB.out (fun hHeld => ?_)
        clear hK K
        refine norm_ (a' := ?_) ?_ ?_
        rotate_left
        · show Act.put _ (some 15) _ = _
          simp only [Act.put, List.setIfInBounds_toArray, List.set_cons_zero, List.set_cons_succ, i64_w, i32_w]
          rfl
        refine pure_ (i := 4) (N := some 16) (v := ?_) (a' := ?_) #[true, true, true, true, true] rfl rfl (by kernel_rfl) (fun _ _ _ h => h) (Or.inl ⟨by rfl, ?_⟩) ?_ ?_
        rotate_left
        · intro w'
          go_simp
          with_reducible rfl
        rotate_left
        · simp only [Act.put, List.setIfInBounds_toArray, List.set_cons_zero, List.set_cons_succ, i64_w, i32_w]
          rfl
        refine done_ (by kernel_rfl) ?_
        try go_wp2
        go_ret2
        exact ⟨_, by first | rfl | (simp [errW_none, errW_some] <;> rfl) | (simp [*, errW_none, errW_some] <;> rfl), by first | exact Kd.S_nil _ _ _ _ _ | exact Kd.N_nil _ _ _ _ _ | exact Kd.V_nil _ _ _ _ _ | exact Kd.Q_nil _ _ _ _ _ | exact Kd.R_nil _ _ _ _ _, by repeat (first | (with_reducible first | exact HB.out | apply below_alloc | apply pw_below_drewN | apply below_drew1) | exact HB.out)⟩
    · rw [if_neg c3] at H
      exact absurd H (by simp)

end Go.Proofs.YtdjmahmbofhnpaaDoor.QAr
