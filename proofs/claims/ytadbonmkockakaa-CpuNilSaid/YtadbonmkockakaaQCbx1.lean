-- Written by a program of this session (wip/pr.py).
import Derived.Test.YtadbonmkockakaaQCbx0
namespace Go.Proofs.Ytadbonmkockakaa.QCb
open Go.RowKit Go.Proofs.YtadbonmkockakaaW.PrintWords Go.Proofs.YtadbonmkockakaaW.PrintLast Go.Proofs.YtadbonmkockakaaW.PrintMore
attribute [local go_sem] max2_int min2_int max_two min_two max_three min_three max_four min_four   -- for this text's walks alone
set_option linter.unusedVariables false
set_option linter.unusedSimpArgs false

/-! ### bounds_Base: function 46 -/
def bounds_Base.f (a0_0 : Int) (a0_1 : Int) (a0_2 : Int) (a1 : Int) : Option (Int) := if 0 ≤ (IntKind.u64.wrap (Int.tmod a0_0 16)) then (if 0 ≤ (IntKind.u64.wrap ((IntKind.u64.wrap (Int.tmod a0_0 16)) + 9)) then (if (Int.tmod (shr .u64 (IntKind.u64.wrap (a1)) (IntKind.u64.wrap (Int.tmod a0_0 16))) 512) < (IntKind.u64.wrap (Int.tmod a0_1 512)) then (if 0 ≤ (IntKind.u64.wrap ((IntKind.u64.wrap (32 - (IntKind.u64.wrap (Int.tmod a0_0 16)))) - 9)) then (some (IntKind.u64.wrap ((shl .u64 (Go.bits .and .u64 (IntKind.u64.wrap ((shr .u64 (IntKind.u64.wrap (a1)) (IntKind.u64.wrap ((IntKind.u64.wrap (Int.tmod a0_0 16)) + 9))) - 1)) (IntKind.u64.wrap ((shl .u64 1 (IntKind.u64.wrap ((IntKind.u64.wrap (32 - (IntKind.u64.wrap (Int.tmod a0_0 16)))) - 9))) - 1))) (IntKind.u64.wrap ((IntKind.u64.wrap (Int.tmod a0_0 16)) + 9))) + (shl .u64 (IntKind.u64.wrap (Int.tmod a0_1 512)) (IntKind.u64.wrap (Int.tmod a0_0 16)))))) else (none)) else (some (IntKind.u64.wrap ((shl .u64 (shr .u64 (IntKind.u64.wrap (a1)) (IntKind.u64.wrap ((IntKind.u64.wrap (Int.tmod a0_0 16)) + 9))) (IntKind.u64.wrap ((IntKind.u64.wrap (Int.tmod a0_0 16)) + 9))) + (shl .u64 (IntKind.u64.wrap (Int.tmod a0_1 512)) (IntKind.u64.wrap (Int.tmod a0_0 16))))))) else (none)) else (none)
set_option maxHeartbeats 8000000 in
set_option maxRecDepth 100000 in
theorem bounds_Base.calls (a0_0 : Int) (a0_1 : Int) (a0_2 : Int) (a1 : Int) (r : Int) (w : World) (h : bounds_Base.f a0_0 a0_1 a0_2 a1 = some r) :
    Calls Try.prog 46 #[.agg #[.int .u8 a0_0, .int .u16 a0_1, .int .u16 a0_2], .int .u32 a1] w fun e w' => e = .returned (.int .u64 r) ∧ Below w.heap.size w w' := by
  have hu25 := Try.underlying25
  have HB := Aside0.mk (Below.refl w.heap.size w)
  have H : (if 0 ≤ (IntKind.u64.wrap (Int.tmod a0_0 16)) then (if 0 ≤ (IntKind.u64.wrap ((IntKind.u64.wrap (Int.tmod a0_0 16)) + 9)) then (if (Int.tmod (shr .u64 (IntKind.u64.wrap (a1)) (IntKind.u64.wrap (Int.tmod a0_0 16))) 512) < (IntKind.u64.wrap (Int.tmod a0_1 512)) then (if 0 ≤ (IntKind.u64.wrap ((IntKind.u64.wrap (32 - (IntKind.u64.wrap (Int.tmod a0_0 16)))) - 9)) then (some (IntKind.u64.wrap ((shl .u64 (Go.bits .and .u64 (IntKind.u64.wrap ((shr .u64 (IntKind.u64.wrap (a1)) (IntKind.u64.wrap ((IntKind.u64.wrap (Int.tmod a0_0 16)) + 9))) - 1)) (IntKind.u64.wrap ((shl .u64 1 (IntKind.u64.wrap ((IntKind.u64.wrap (32 - (IntKind.u64.wrap (Int.tmod a0_0 16)))) - 9))) - 1))) (IntKind.u64.wrap ((IntKind.u64.wrap (Int.tmod a0_0 16)) + 9))) + (shl .u64 (IntKind.u64.wrap (Int.tmod a0_1 512)) (IntKind.u64.wrap (Int.tmod a0_0 16)))))) else (none)) else (some (IntKind.u64.wrap ((shl .u64 (shr .u64 (IntKind.u64.wrap (a1)) (IntKind.u64.wrap ((IntKind.u64.wrap (Int.tmod a0_0 16)) + 9))) (IntKind.u64.wrap ((IntKind.u64.wrap (Int.tmod a0_0 16)) + 9))) + (shl .u64 (IntKind.u64.wrap (Int.tmod a0_1 512)) (IntKind.u64.wrap (Int.tmod a0_0 16))))))) else (none)) else (none)) = some r := h
  clear h
  obtain ⟨ji3, hji3⟩ : ∃ j_ : Int, (IntKind.u64.wrap (Int.tmod a0_0 16)) = j_ := ⟨_, rfl⟩
  replace H : (if 0 ≤ (ji3) then (if 0 ≤ (IntKind.u64.wrap ((ji3) + 9)) then (if (Int.tmod (shr .u64 (IntKind.u64.wrap (a1)) (ji3)) 512) < (IntKind.u64.wrap (Int.tmod a0_1 512)) then (if 0 ≤ (IntKind.u64.wrap ((IntKind.u64.wrap (32 - (ji3))) - 9)) then (some (IntKind.u64.wrap ((shl .u64 (Go.bits .and .u64 (IntKind.u64.wrap ((shr .u64 (IntKind.u64.wrap (a1)) (IntKind.u64.wrap ((ji3) + 9))) - 1)) (IntKind.u64.wrap ((shl .u64 1 (IntKind.u64.wrap ((IntKind.u64.wrap (32 - (ji3))) - 9))) - 1))) (IntKind.u64.wrap ((ji3) + 9))) + (shl .u64 (IntKind.u64.wrap (Int.tmod a0_1 512)) (ji3))))) else (none)) else (some (IntKind.u64.wrap ((shl .u64 (shr .u64 (IntKind.u64.wrap (a1)) (IntKind.u64.wrap ((ji3) + 9))) (IntKind.u64.wrap ((ji3) + 9))) + (shl .u64 (IntKind.u64.wrap (Int.tmod a0_1 512)) (ji3)))))) else (none)) else (none)) = some r := by first | (rw [hji3] at H; exact H) | (simp only [hji3] at H ⊢; exact H)
  by_cases c4 : 0 ≤ (ji3)
  · rw [if_pos c4] at H
    have c4b0 := eq_true c4
    have c4b1 : decide (0 ≤ (ji3)) = true := decide_eq_true c4
    clear c4
    obtain ⟨ji5, hji5⟩ : ∃ j_ : Int, (shr .u64 (IntKind.u64.wrap (a1)) (ji3)) = j_ := ⟨_, rfl⟩
    replace H : (if 0 ≤ (IntKind.u64.wrap ((ji3) + 9)) then (if (Int.tmod (ji5) 512) < (IntKind.u64.wrap (Int.tmod a0_1 512)) then (if 0 ≤ (IntKind.u64.wrap ((IntKind.u64.wrap (32 - (ji3))) - 9)) then (some (IntKind.u64.wrap ((shl .u64 (Go.bits .and .u64 (IntKind.u64.wrap ((shr .u64 (IntKind.u64.wrap (a1)) (IntKind.u64.wrap ((ji3) + 9))) - 1)) (IntKind.u64.wrap ((shl .u64 1 (IntKind.u64.wrap ((IntKind.u64.wrap (32 - (ji3))) - 9))) - 1))) (IntKind.u64.wrap ((ji3) + 9))) + (shl .u64 (IntKind.u64.wrap (Int.tmod a0_1 512)) (ji3))))) else (none)) else (some (IntKind.u64.wrap ((shl .u64 (shr .u64 (IntKind.u64.wrap (a1)) (IntKind.u64.wrap ((ji3) + 9))) (IntKind.u64.wrap ((ji3) + 9))) + (shl .u64 (IntKind.u64.wrap (Int.tmod a0_1 512)) (ji3)))))) else (none)) = some r := by first | (rw [hji5] at H; exact H) | (simp only [hji5] at H ⊢; exact H)
    have hji5_ : ((IntKind.u64.wrap (a1)) / 2 ^ min (ji3).toNat 64) = ji5 := hji5
    have hji5z : (ji3) ≤ 64 → ((IntKind.u64.wrap (a1)) / 2 ^ (ji3).toNat) = ji5 := shr_small hji5
    obtain ⟨ji6, hji6⟩ : ∃ j_ : Int, (IntKind.u64.wrap ((ji3) + 9)) = j_ := ⟨_, rfl⟩
    replace H : (if 0 ≤ (ji6) then (if (Int.tmod (ji5) 512) < (IntKind.u64.wrap (Int.tmod a0_1 512)) then (if 0 ≤ (IntKind.u64.wrap ((IntKind.u64.wrap (32 - (ji3))) - 9)) then (some (IntKind.u64.wrap ((shl .u64 (Go.bits .and .u64 (IntKind.u64.wrap ((shr .u64 (IntKind.u64.wrap (a1)) (ji6)) - 1)) (IntKind.u64.wrap ((shl .u64 1 (IntKind.u64.wrap ((IntKind.u64.wrap (32 - (ji3))) - 9))) - 1))) (ji6)) + (shl .u64 (IntKind.u64.wrap (Int.tmod a0_1 512)) (ji3))))) else (none)) else (some (IntKind.u64.wrap ((shl .u64 (shr .u64 (IntKind.u64.wrap (a1)) (ji6)) (ji6)) + (shl .u64 (IntKind.u64.wrap (Int.tmod a0_1 512)) (ji3)))))) else (none)) = some r := by first | (rw [hji6] at H; exact H) | (simp only [hji6] at H ⊢; exact H)
    by_cases c7 : 0 ≤ (ji6)
    · rw [if_pos c7] at H
      have c7b0 := eq_true c7
      have c7b1 : decide (0 ≤ (ji6)) = true := decide_eq_true c7
      clear c7
      obtain ⟨ji8, hji8⟩ : ∃ j_ : Int, (shr .u64 (IntKind.u64.wrap (a1)) (ji6)) = j_ := ⟨_, rfl⟩
      replace H : (if (Int.tmod (ji5) 512) < (IntKind.u64.wrap (Int.tmod a0_1 512)) then (if 0 ≤ (IntKind.u64.wrap ((IntKind.u64.wrap (32 - (ji3))) - 9)) then (some (IntKind.u64.wrap ((shl .u64 (Go.bits .and .u64 (IntKind.u64.wrap ((ji8) - 1)) (IntKind.u64.wrap ((shl .u64 1 (IntKind.u64.wrap ((IntKind.u64.wrap (32 - (ji3))) - 9))) - 1))) (ji6)) + (shl .u64 (IntKind.u64.wrap (Int.tmod a0_1 512)) (ji3))))) else (none)) else (some (IntKind.u64.wrap ((shl .u64 (ji8) (ji6)) + (shl .u64 (IntKind.u64.wrap (Int.tmod a0_1 512)) (ji3)))))) = some r := by first | (rw [hji8] at H; exact H) | (simp only [hji8] at H ⊢; exact H)
      have hji8_ : ((IntKind.u64.wrap (a1)) / 2 ^ min (ji6).toNat 64) = ji8 := hji8
      have hji8z : (ji6) ≤ 64 → ((IntKind.u64.wrap (a1)) / 2 ^ (ji6).toNat) = ji8 := shr_small hji8
      by_cases c9 : (Int.tmod (ji5) 512) < (IntKind.u64.wrap (Int.tmod a0_1 512))
      · rw [if_pos c9] at H
        have c9b0 : decide ((Int.tmod (ji5) 512) < (IntKind.u64.wrap (Int.tmod a0_1 512))) = true := decide_eq_true c9
        clear c9
        obtain ⟨ji10, hji10⟩ : ∃ j_ : Int, (IntKind.u64.wrap ((IntKind.u64.wrap (32 - (ji3))) - 9)) = j_ := ⟨_, rfl⟩
        replace H : (if 0 ≤ (ji10) then (some (IntKind.u64.wrap ((shl .u64 (Go.bits .and .u64 (IntKind.u64.wrap ((ji8) - 1)) (IntKind.u64.wrap ((shl .u64 1 (ji10)) - 1))) (ji6)) + (shl .u64 (IntKind.u64.wrap (Int.tmod a0_1 512)) (ji3))))) else (none)) = some r := by first | (rw [hji10] at H; exact H) | (simp only [hji10] at H ⊢; exact H)
        by_cases c11 : 0 ≤ (ji10)
        · rw [if_pos c11] at H
          have c11b0 := eq_true c11
          have c11b1 : decide (0 ≤ (ji10)) = true := decide_eq_true c11
          clear c11
          obtain ⟨ji12, hji12⟩ : ∃ j_ : Int, (shl .u64 1 (ji10)) = j_ := ⟨_, rfl⟩
          replace H : (some (IntKind.u64.wrap ((shl .u64 (Go.bits .and .u64 (IntKind.u64.wrap ((ji8) - 1)) (IntKind.u64.wrap ((ji12) - 1))) (ji6)) + (shl .u64 (IntKind.u64.wrap (Int.tmod a0_1 512)) (ji3))))) = some r := by first | (rw [hji12] at H; exact H) | (simp only [hji12] at H ⊢; exact H)
          have hji12_ : (IntKind.u64.wrap (1 * 2 ^ min (ji10).toNat 64)) = ji12 := hji12
          have hji12z : (ji10) ≤ 64 → (IntKind.u64.wrap (1 * 2 ^ (ji10).toNat)) = ji12 := shl_small hji12
          have hji12u : (IntKind.u64.wrap (2 ^ min (ji10).toNat 64)) = ji12 := by have h_ := hji12_; rw [Int.one_mul] at h_; exact h_
          have hji12v : (ji10) ≤ 64 → (IntKind.u64.wrap (2 ^ (ji10).toNat)) = ji12 := fun hle_ => by have h_ := hji12z hle_; rw [Int.one_mul] at h_; exact h_
          have c13b0 := eq_true (of_decide_eq_true (by first | (with_reducible assumption) | assumption) : 0 ≤ (ji6))
          obtain ⟨ji14, hji14⟩ : ∃ j_ : Int, (shl .u64 (Go.bits .and .u64 (IntKind.u64.wrap ((ji8) - 1)) (IntKind.u64.wrap ((ji12) - 1))) (ji6)) = j_ := ⟨_, rfl⟩
          replace H : (some (IntKind.u64.wrap ((ji14) + (shl .u64 (IntKind.u64.wrap (Int.tmod a0_1 512)) (ji3))))) = some r := by first | (rw [hji14] at H; exact H) | (simp only [hji14] at H ⊢; exact H)
          have hji14_ : (IntKind.u64.wrap ((Go.bits .and .u64 (IntKind.u64.wrap ((ji8) - 1)) (IntKind.u64.wrap ((ji12) - 1))) * 2 ^ min (ji6).toNat 64)) = ji14 := hji14
          have hji14z : (ji6) ≤ 64 → (IntKind.u64.wrap ((Go.bits .and .u64 (IntKind.u64.wrap ((ji8) - 1)) (IntKind.u64.wrap ((ji12) - 1))) * 2 ^ (ji6).toNat)) = ji14 := shl_small hji14
          have c15b0 := eq_true (of_decide_eq_true (by first | (with_reducible assumption) | assumption) : 0 ≤ (ji3))
          obtain ⟨ji16, hji16⟩ : ∃ j_ : Int, (shl .u64 (IntKind.u64.wrap (Int.tmod a0_1 512)) (ji3)) = j_ := ⟨_, rfl⟩
          replace H : (some (IntKind.u64.wrap ((ji14) + (ji16)))) = some r := by first | (rw [hji16] at H; exact H) | (simp only [hji16] at H ⊢; exact H)
          have hji16_ : (IntKind.u64.wrap ((IntKind.u64.wrap (Int.tmod a0_1 512)) * 2 ^ min (ji3).toNat 64)) = ji16 := hji16
          have hji16z : (ji3) ≤ 64 → (IntKind.u64.wrap ((IntKind.u64.wrap (Int.tmod a0_1 512)) * 2 ^ (ji3).toNat)) = ji16 := shl_small hji16
          obtain rfl := Option.some.inj H
          go_enter Try.func46, Try.ntmps46
          go_wp2_with (first | ((with_reducible refine gate_dst (N := 2) rfl ?_); refine box_event ?hg (N := 2) ?hd (cs := #[.int .u8 a0_0, .int .u16 a0_1, .int .u16 a0_2]) (t := 25) ?hr ?_; (case hd => rfl); (case hg => rfl); (case hr => first | (go_simp; done) | (go_simp; rfl)); intro gb101 hg w17 hbox hb; have n0_ := Aside0.mk (below_step (by repeat (first | (with_reducible first | exact HB.out | apply below_alloc | apply pw_below_drewN | apply below_drew1) | exact HB.out)) hb); have n1_ := Aside0.mk (hbox); have n2_ := Aside0.mk ((by rw [hg]; exact (below_size (by repeat (first | (with_reducible first | exact HB.out | apply below_alloc | apply pw_below_drewN | apply below_drew1) | exact HB.out))) : w.heap.size ≤ gb101)); have n3_ := Aside0.mk ((by rw [hg]; exact (below_size (by repeat (first | (with_reducible first | exact HB.out | apply below_alloc | apply pw_below_drewN | apply below_drew1) | exact HB.out))) : w.heap.size ≤ gb101)); clear HB; have HB := n0_; have BK101 := n1_; have GW101 := n2_; have GE101 := n3_; clear n0_ n1_ n2_ n3_; clear hb hbox hg; have hcz18_0 : w17.cell? ⟨gb101, 0, none⟩ = some (.int .u8 a0_0) := (blk_cell BK101.out 0).trans rfl; have hcz18_1 : w17.cell? ⟨gb101, 1, none⟩ = some (.int .u16 a0_1) := (blk_cell BK101.out 1).trans rfl; have hcz18_2 : w17.cell? ⟨gb101, 2, none⟩ = some (.int .u16 a0_2) := (blk_cell BK101.out 2).trans rfl; have hfz18_0 := blk_frozen BK101.out 0; have hfz18_1 := blk_frozen BK101.out 1; have hfz18_2 := blk_frozen BK101.out 2))
          go_ret
          exact ⟨by first | rfl | (simp [errW_none, errW_some] <;> rfl) | (simp only [← hji3, ← hji5, ← hji6, ← hji8, ← hji10, ← hji12, ← hji14, ← hji16]; first | rfl | (simp [errW_none, errW_some] <;> rfl)) | (simp [*, errW_none, errW_some] <;> rfl), by repeat (first | (with_reducible first | exact HB.out | apply below_alloc | apply pw_below_drewN | apply below_drew1 | refine below_set ?_ GE101.out) | exact HB.out)⟩
        · rw [if_neg c11] at H
          exact absurd H (by simp)
      · rw [if_neg c9] at H
        have c9b0 : decide ((Int.tmod (ji5) 512) < (IntKind.u64.wrap (Int.tmod a0_1 512))) = false := decide_eq_false c9
        clear c9
        have c19b0 := eq_true (of_decide_eq_true (by first | (with_reducible assumption) | assumption) : 0 ≤ (ji6))
        obtain ⟨ji20, hji20⟩ : ∃ j_ : Int, (shl .u64 (ji8) (ji6)) = j_ := ⟨_, rfl⟩
        replace H : (some (IntKind.u64.wrap ((ji20) + (shl .u64 (IntKind.u64.wrap (Int.tmod a0_1 512)) (ji3))))) = some r := by first | (rw [hji20] at H; exact H) | (simp only [hji20] at H ⊢; exact H)
        have hji20_ : (IntKind.u64.wrap ((ji8) * 2 ^ min (ji6).toNat 64)) = ji20 := hji20
        have hji20z : (ji6) ≤ 64 → (IntKind.u64.wrap ((ji8) * 2 ^ (ji6).toNat)) = ji20 := shl_small hji20
        have c21b0 := eq_true (of_decide_eq_true (by first | (with_reducible assumption) | assumption) : 0 ≤ (ji3))
        obtain ⟨ji22, hji22⟩ : ∃ j_ : Int, (shl .u64 (IntKind.u64.wrap (Int.tmod a0_1 512)) (ji3)) = j_ := ⟨_, rfl⟩
        replace H : (some (IntKind.u64.wrap ((ji20) + (ji22)))) = some r := by first | (rw [hji22] at H; exact H) | (simp only [hji22] at H ⊢; exact H)
        have hji22_ : (IntKind.u64.wrap ((IntKind.u64.wrap (Int.tmod a0_1 512)) * 2 ^ min (ji3).toNat 64)) = ji22 := hji22
        have hji22z : (ji3) ≤ 64 → (IntKind.u64.wrap ((IntKind.u64.wrap (Int.tmod a0_1 512)) * 2 ^ (ji3).toNat)) = ji22 := shl_small hji22
        obtain rfl := Option.some.inj H
        go_enter Try.func46, Try.ntmps46
        go_wp2_with (first | ((with_reducible refine gate_dst (N := 2) rfl ?_); refine box_event ?hg (N := 2) ?hd (cs := #[.int .u8 a0_0, .int .u16 a0_1, .int .u16 a0_2]) (t := 25) ?hr ?_; (case hd => rfl); (case hg => rfl); (case hr => first | (go_simp; done) | (go_simp; rfl)); intro gb101 hg w23 hbox hb; have n0_ := Aside0.mk (below_step (by repeat (first | (with_reducible first | exact HB.out | apply below_alloc | apply pw_below_drewN | apply below_drew1) | exact HB.out)) hb); have n1_ := Aside0.mk (hbox); have n2_ := Aside0.mk ((by rw [hg]; exact (below_size (by repeat (first | (with_reducible first | exact HB.out | apply below_alloc | apply pw_below_drewN | apply below_drew1) | exact HB.out))) : w.heap.size ≤ gb101)); have n3_ := Aside0.mk ((by rw [hg]; exact (below_size (by repeat (first | (with_reducible first | exact HB.out | apply below_alloc | apply pw_below_drewN | apply below_drew1) | exact HB.out))) : w.heap.size ≤ gb101)); clear HB; have HB := n0_; have BK101 := n1_; have GW101 := n2_; have GE101 := n3_; clear n0_ n1_ n2_ n3_; clear hb hbox hg; have hcz24_0 : w23.cell? ⟨gb101, 0, none⟩ = some (.int .u8 a0_0) := (blk_cell BK101.out 0).trans rfl; have hcz24_1 : w23.cell? ⟨gb101, 1, none⟩ = some (.int .u16 a0_1) := (blk_cell BK101.out 1).trans rfl; have hcz24_2 : w23.cell? ⟨gb101, 2, none⟩ = some (.int .u16 a0_2) := (blk_cell BK101.out 2).trans rfl; have hfz24_0 := blk_frozen BK101.out 0; have hfz24_1 := blk_frozen BK101.out 1; have hfz24_2 := blk_frozen BK101.out 2))
        go_ret
        exact ⟨by first | rfl | (simp [errW_none, errW_some] <;> rfl) | (simp only [← hji3, ← hji5, ← hji6, ← hji8, ← hji20, ← hji22]; first | rfl | (simp [errW_none, errW_some] <;> rfl)) | (simp [*, errW_none, errW_some] <;> rfl), by repeat (first | (with_reducible first | exact HB.out | apply below_alloc | apply pw_below_drewN | apply below_drew1 | refine below_set ?_ GE101.out) | exact HB.out)⟩
    · rw [if_neg c7] at H
      exact absurd H (by simp)
  · rw [if_neg c4] at H
    exact absurd H (by simp)

/-! ### bounds_Length: function 47 -/
def bounds_Length.f (a0_0 : Int) (a0_1 : Int) (a0_2 : Int) : Option (Int) := if 0 ≤ (Int.tmod a0_0 16) then (some (shl .u64 (Int.tmod (IntKind.u64.wrap ((IntKind.u64.wrap ((IntKind.u64.wrap (Int.tmod a0_2 512)) + 512)) - (IntKind.u64.wrap (Int.tmod a0_1 512)))) 512) (Int.tmod a0_0 16))) else (none)
set_option maxHeartbeats 8000000 in
set_option maxRecDepth 100000 in
theorem bounds_Length.calls (a0_0 : Int) (a0_1 : Int) (a0_2 : Int) (r : Int) (w : World) (h : bounds_Length.f a0_0 a0_1 a0_2 = some r) :
    Calls Try.prog 47 #[.agg #[.int .u8 a0_0, .int .u16 a0_1, .int .u16 a0_2]] w fun e w' => e = .returned (.int .u64 r) ∧ Below w.heap.size w w' := by
  have hu25 := Try.underlying25
  have HB := Aside0.mk (Below.refl w.heap.size w)
  have H : (if 0 ≤ (Int.tmod a0_0 16) then (some (shl .u64 (Int.tmod (IntKind.u64.wrap ((IntKind.u64.wrap ((IntKind.u64.wrap (Int.tmod a0_2 512)) + 512)) - (IntKind.u64.wrap (Int.tmod a0_1 512)))) 512) (Int.tmod a0_0 16))) else (none)) = some r := h
  clear h
  obtain ⟨ji2, hji2⟩ : ∃ j_ : Int, (Int.tmod a0_0 16) = j_ := ⟨_, rfl⟩
  replace H : (if 0 ≤ (ji2) then (some (shl .u64 (Int.tmod (IntKind.u64.wrap ((IntKind.u64.wrap ((IntKind.u64.wrap (Int.tmod a0_2 512)) + 512)) - (IntKind.u64.wrap (Int.tmod a0_1 512)))) 512) (ji2))) else (none)) = some r := by first | (rw [hji2] at H; exact H) | (simp only [hji2] at H ⊢; exact H)
  by_cases c3 : 0 ≤ (ji2)
  · rw [if_pos c3] at H
    have c3b0 := eq_true c3
    have c3b1 : decide (0 ≤ (ji2)) = true := decide_eq_true c3
    clear c3
    obtain ⟨ji4, hji4⟩ : ∃ j_ : Int, (shl .u64 (Int.tmod (IntKind.u64.wrap ((IntKind.u64.wrap ((IntKind.u64.wrap (Int.tmod a0_2 512)) + 512)) - (IntKind.u64.wrap (Int.tmod a0_1 512)))) 512) (ji2)) = j_ := ⟨_, rfl⟩
    replace H : (some ji4) = some r := by first | (rw [hji4] at H; exact H) | (simp only [hji4] at H ⊢; exact H)
    have hji4_ : (IntKind.u64.wrap ((Int.tmod (IntKind.u64.wrap ((IntKind.u64.wrap ((IntKind.u64.wrap (Int.tmod a0_2 512)) + 512)) - (IntKind.u64.wrap (Int.tmod a0_1 512)))) 512) * 2 ^ min (ji2).toNat 64)) = ji4 := hji4
    have hji4z : (ji2) ≤ 64 → (IntKind.u64.wrap ((Int.tmod (IntKind.u64.wrap ((IntKind.u64.wrap ((IntKind.u64.wrap (Int.tmod a0_2 512)) + 512)) - (IntKind.u64.wrap (Int.tmod a0_1 512)))) 512) * 2 ^ (ji2).toNat)) = ji4 := shl_small hji4
    obtain rfl := Option.some.inj H
    go_enter Try.func47, Try.ntmps47
    go_wp2_with (first | ((with_reducible refine gate_dst (N := 1) rfl ?_); refine box_event ?hg (N := 1) ?hd (cs := #[.int .u8 a0_0, .int .u16 a0_1, .int .u16 a0_2]) (t := 25) ?hr ?_; (case hd => rfl); (case hg => rfl); (case hr => first | (go_simp; done) | (go_simp; rfl)); intro gb102 hg w5 hbox hb; have n0_ := Aside0.mk (below_step (by repeat (first | (with_reducible first | exact HB.out | apply below_alloc | apply pw_below_drewN | apply below_drew1) | exact HB.out)) hb); have n1_ := Aside0.mk (hbox); have n2_ := Aside0.mk ((by rw [hg]; exact (below_size (by repeat (first | (with_reducible first | exact HB.out | apply below_alloc | apply pw_below_drewN | apply below_drew1) | exact HB.out))) : w.heap.size ≤ gb102)); have n3_ := Aside0.mk ((by rw [hg]; exact (below_size (by repeat (first | (with_reducible first | exact HB.out | apply below_alloc | apply pw_below_drewN | apply below_drew1) | exact HB.out))) : w.heap.size ≤ gb102)); clear HB; have HB := n0_; have BK102 := n1_; have GW102 := n2_; have GE102 := n3_; clear n0_ n1_ n2_ n3_; clear hb hbox hg; have hcz6_0 : w5.cell? ⟨gb102, 0, none⟩ = some (.int .u8 a0_0) := (blk_cell BK102.out 0).trans rfl; have hcz6_1 : w5.cell? ⟨gb102, 1, none⟩ = some (.int .u16 a0_1) := (blk_cell BK102.out 1).trans rfl; have hcz6_2 : w5.cell? ⟨gb102, 2, none⟩ = some (.int .u16 a0_2) := (blk_cell BK102.out 2).trans rfl; have hfz6_0 := blk_frozen BK102.out 0; have hfz6_1 := blk_frozen BK102.out 1; have hfz6_2 := blk_frozen BK102.out 2))
    go_ret
    exact ⟨by first | rfl | (simp [errW_none, errW_some] <;> rfl) | (simp only [← hji2, ← hji4]; first | rfl | (simp [errW_none, errW_some] <;> rfl)) | (simp [*, errW_none, errW_some] <;> rfl), by repeat (first | (with_reducible first | exact HB.out | apply below_alloc | apply pw_below_drewN | apply below_drew1 | refine below_set ?_ GE102.out) | exact HB.out)⟩
  · rw [if_neg c3] at H
    exact absurd H (by simp)

/-! ### bulwarkref02_power: function 44 -/
def bulwarkref02_power.l0 : Nat → Int → Int → Int → Option (Int)
  | 0, _, _, _ => none
  | k + 1, x0, x3, x4 => if x4 < x0 then (bulwarkref02_power.l0 k x0 (IntKind.u64.wrap (2 * x3)) (wrap64 (x4 + 1))) else (some x3)
def bulwarkref02_power.f (k : Nat) (a0 : Int) : Option (Int) := bulwarkref02_power.l0 k a0 1 0
theorem bulwarkref02_power.mono_l : ∀ k, (∀ y0 y1 y2, LeO (bulwarkref02_power.l0 k y0 y1 y2) (bulwarkref02_power.l0 (k + 1) y0 y1 y2))
  | 0 => fun _ _ _ r h => by simp [bulwarkref02_power.l0] at h
  | k + 1 => by
    have ih0 := bulwarkref02_power.mono_l k
    · intro y0 y1 y2
      unfold bulwarkref02_power.l0
      repeat' first
      | (with_reducible exact ih0 _ _ _)
      | (with_reducible exact LeO.refl _)
      | (with_reducible exact LeO.none _)
      | (with_reducible refine LeO.ite ?_ ?_)
      | (with_reducible refine LeO.bind ?_ (fun _ => ?_))
      | exact ih0 _ _ _
      | exact LeO.none _
      | refine LeO.ite ?_ ?_
      | refine LeO.bind ?_ (fun _ => ?_)
theorem bulwarkref02_power.mono : ∀ a0 k, LeO (bulwarkref02_power.f k a0) (bulwarkref02_power.f (k + 1) a0) := by
  intro a0 k
  have ih0 := bulwarkref02_power.mono_l k
  unfold bulwarkref02_power.f
  repeat' first
      | (with_reducible exact ih0 _ _ _)
      | (with_reducible exact LeO.refl _)
      | (with_reducible exact LeO.none _)
      | (with_reducible refine LeO.ite ?_ ?_)
      | (with_reducible refine LeO.bind ?_ (fun _ => ?_))
      | exact ih0 _ _ _
      | exact LeO.none _
      | refine LeO.ite ?_ ?_
      | refine LeO.bind ?_ (fun _ => ?_)
set_option maxHeartbeats 8000000 in
set_option maxRecDepth 100000 in
theorem bulwarkref02_power.calls (k : Nat) (a0 : Int) (r : Int) (w : World) (h : bulwarkref02_power.f k a0 = some r) :
    Calls Try.prog 44 #[.int .i64 a0] w fun e w' => e = .returned (.int .u64 r) ∧ Drawn0 w w' := by
  have H : (bulwarkref02_power.l0 k a0 1 0) = some r := h
  clear h
  have H' := Aside0.mk H
  clear H
  go_enter Try.func44, Try.ntmps44
  go_wp2
  go_loopg [3, 4] k (fun kq v3 v4 w' => ∃ (x3_1 : Int) (x4_1 : Int), v3 = .int .u64 x3_1 ∧ v4 = .int .i64 x4_1 ∧ Aside0 (bulwarkref02_power.l0 kq a0 x3_1 x4_1 = some r) ∧ Aside0 (kq ≤ k) ∧ Drawn0 w w')
  case atStart => exact ⟨(1), (0), (by first | rfl | (simp; done) | (simp [*]; done)), (by first | rfl | (simp; done) | (simp [*]; done)), H', ⟨Nat.le_refl _⟩, by repeat (first | exact Drawn0.refl _ | apply Drawn0.step)⟩
  case round =>
    clear H'
    obtain ⟨x3_1, x4_1, rfl, rfl, HA, HK1, ⟨m1, rfl⟩⟩ := hrel
    cases gk with
    | zero => exact absurd HA.out (by simp [bulwarkref02_power.l0])
    | succ k1 =>
      have H := HA.out
      clear HA
      simp only [bulwarkref02_power.l0] at H
      by_cases c2 : x4_1 < a0
      · rw [if_pos c2] at H
        have c2b0 : decide (x4_1 < a0) = true := decide_eq_true c2
        clear c2
        have H' := Aside0.mk H
        clear H
        go_wp2
        go_roundg k1
        case measure => have := HK1.out; omega
        case rel => exact ⟨(IntKind.u64.wrap (2 * x3_1)), (wrap64 (x4_1 + 1)), (by first | rfl | (simp; done) | (simp [*]; done)), (by first | rfl | (simp; done) | (simp [*]; done)), H', ⟨by have := HK1.out; omega⟩, by repeat (first | exact Drawn0.refl _ | apply Drawn0.step)⟩
      · rw [if_neg c2] at H
        have c2b0 : decide (x4_1 < a0) = false := decide_eq_false c2
        clear c2
        obtain rfl := Option.some.inj H
        go_wp2
        go_ret
        exact ⟨by first | rfl | (simp; done) | (simp [*]; done), by repeat (first | exact Drawn0.refl _ | apply Drawn0.step)⟩

end Go.Proofs.Ytadbonmkockakaa.QCb
