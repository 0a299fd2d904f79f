/- lives answers true. -/
import Derived.Test.YtchkjfokoenlnaaQSyQ
namespace Go.Proofs.Ytchkjfokoenlnaa.Sym
open Go.RowKit Go.Maps Go.WideMaps Go.Proofs.YtchkjfokoenlnaaW.PrintWords Go.Proofs.YtchkjfokoenlnaaW.PrintLast Go.Proofs.Ytchkjfokoenlnaa.QSy
set_option linter.unusedVariables false
set_option linter.unusedSimpArgs false
attribute [local go_sem high] eqA32 eqA37
def nF : ByteArray := ⟨#[102]⟩
def nS : ByteArray := ⟨#[115, 119, 105, 116, 99, 104]⟩
def y1 : S47 := ⟨nF, 0, 0, 1, 0, false, -2⟩
def y2 : S47 := ⟨nS, 0, 0, 1, 0, false, -1⟩
def lv : List S44 := [⟨⟨#[]⟩, ⟨[], [y1, y2], []⟩⟩]
def tv : List S37 := [⟨nF, ⟨0, 0, -1⟩⟩, ⟨nS, ⟨-1, 0, 0⟩⟩]
theorem lv_own : tableR lv [nS] = (tv, ⟨#[]⟩, 0) := by kernel_rfl
theorem lv_nil : tableR lv [] = ([], nS, 6) := by kernel_rfl
theorem lv_of : ofS tv lv 0 1 = (⟨-1, 0, 0⟩, true) := by kernel_rfl
theorem lv_cnt : cnt lv ≤ 400 := by decide
theorem lv_len : LenOk lv := ⟨by decide, fun i => by
  rcases i with _ | i
  · decide
  · exact Nat.zero_le _⟩
theorem lv_names : NamesOk lv := fun i k => by
  rcases i with _ | i
  · rcases k with _ | _ | k
    · decide
    · decide
    · exact Nat.zero_le _
  · rcases k with _ | k <;> exact Nat.zero_le _
theorem C_nil {α : Type} {k : Kd α} {w : World} : Kd.C k w none 0 [] := by
  refine ⟨rfl, by decide, fun h => absurd h (by decide)⟩
theorem syms_at {W : World} {n : Nat} {t : TypeId} (hb : W.heap[n]? = some (.cells #[.string nF, .int .u32 0, .int .u32 0, .int .u8 1, .int .u8 0, .bool false, .int .i64 (-2), .string nS, .int .u32 0, .int .u32 0, .int .u8 1, .int .u8 0, .bool false, .int .i64 (-1)] t (0, 0))) : Kd.C k47 W (some ⟨n, 0, none⟩) 2 [y1, y2] := by
  refine ⟨rfl, by decide, fun _ => ⟨_, rfl, fun j p hj => ?_⟩⟩
  have hcell : ∀ (i : Nat) (v : Value), (#[Value.string nF, .int .u32 0, .int .u32 0, .int .u8 1, .int .u8 0, .bool false, .int .i64 (-2), .string nS, .int .u32 0, .int .u32 0, .int .u8 1, .int .u8 0, .bool false, .int .i64 (-1)])[i]? = some v → W.cell? ⟨n, i, none⟩ = some v := fun i v h => by
    unfold World.cell?
    rw [hb]
    simpa using h
  rcases j with _ | _ | j
  · cases hj
    refine ⟨_, rfl, k47_mk _ _, fun i u hu => ?_⟩
    rcases i with _ | _ | _ | _ | _ | _ | _ | i
    all_goals first
      | (cases hu; exact hcell _ _ rfl)
      | exact absurd hu (by simp)
  · cases hj
    refine ⟨_, rfl, k47_mk _ _, fun i u hu => ?_⟩
    rcases i with _ | _ | _ | _ | _ | _ | _ | i
    all_goals first
      | (cases hu; exact hcell _ _ rfl)
      | exact absurd hu (by simp)
  · cases hj
theorem objs_at {W : World} {n m : Nat} {t : TypeId} (hb : W.heap[m]? = some (.cells #[.string ⟨#[]⟩, .slice none 0 0, .slice (some ⟨n, 0, none⟩) 2 2, .slice none 0 0] t (0, 0))) (hs : Kd.C k47 W (some ⟨n, 0, none⟩) 2 [y1, y2]) : Kd.C k44 W (some ⟨m, 0, none⟩) 1 lv := by
  refine ⟨rfl, by decide, fun _ => ⟨_, rfl, fun j p hj => ?_⟩⟩
  have hcell : ∀ (i : Nat) (v : Value), (#[Value.string ⟨#[]⟩, .slice none 0 0, .slice (some ⟨n, 0, none⟩) 2 2, .slice none 0 0])[i]? = some v → W.cell? ⟨m, i, none⟩ = some v := fun i v h => by
    unfold World.cell?
    rw [hb]
    simpa using h
  rcases j with _ | j
  · cases hj
    refine ⟨_, rfl, k44_mk _ _ (Nat.le_refl 0) C_nil (Nat.le_refl 2) hs (Nat.le_refl 0) C_nil, fun i u hu => ?_⟩
    rcases i with _ | _ | _ | _ | i
    all_goals first
      | (cases hu; exact hcell _ _ rfl)
      | exact absurd hu (by simp)
  · cases hj
theorem name_at {W : World} {m : Nat} {t : TypeId} (hb : W.heap[m]? = some (.cells #[.string nS] t (0, 0))) : Kd.C Kd.string W (some ⟨m, 0, none⟩) 1 [nS] := by
  refine ⟨rfl, by decide, fun _ => ⟨_, rfl, fun j p hj => ?_⟩⟩
  rcases j with _ | j
  · cases hj
    refine ⟨_, rfl, rfl, fun i u hu => ?_⟩
    rcases i with _ | i
    · cases hu
      show W.cell? ⟨m, 0, none⟩ = _
      unfold World.cell?
      simp only [hb]
      rfl
    · exact absurd hu (by simp)
  · cases hj
theorem old_al {w : World} {n : Nat} {o' : Obj} (h : w.heap[n]? = some o') (o : Obj) : (w.alloc o).heap[n]? = some o' :=
  ((below_alloc (Below.refl _ _) o).block _ (Array.getElem?_eq_some_iff.1 h).1).trans h
theorem new_at1 (w : World) (o o2 : Obj) : ((w.alloc o).alloc o2).heap[w.heap.size + 1]? = some o2 := by
  have := new_at (w.alloc o) o2
  rwa [show (w.alloc o).heap.size = w.heap.size + 1 from World.size_alloc _ _] at this
theorem new_at2 (w : World) (o o2 o3 : Obj) : (((w.alloc o).alloc o2).alloc o3).heap[w.heap.size + 1 + 1]? = some o3 := by
  have := new_at1 (w.alloc o) o2 o3
  rwa [show (w.alloc o).heap.size = w.heap.size + 1 from World.size_alloc _ _] at this
abbrev oY : Obj := .cells #[.string ⟨#[102]⟩, .int .u32 0, .int .u32 0, .int .u8 1, .int .u8 0, .bool false, .int .i64 (-2), .string ⟨#[115, 119, 105, 116, 99, 104]⟩, .int .u32 0, .int .u32 0, .int .u8 1, .int .u8 0, .bool false, .int .i64 (-1)] 47 (0, 0)
abbrev oL (n : Nat) : Obj := .cells #[.string ⟨#[]⟩, .slice none 0 0, .slice (some ⟨n, 0, none⟩) 2 2, .slice none 0 0] 44 (0, 0)
abbrev oN : Obj := .cells #[.string ⟨#[115, 119, 105, 116, 99, 104]⟩] 9 (0, 0)
theorem lv_at (w : World) : Kd.C k44 (((w.alloc oY).alloc (oL w.heap.size)).alloc oN) (some ⟨w.heap.size + 1, 0, none⟩) lv.length lv :=
  objs_at (old_al (new_at1 w oY (oL w.heap.size)) oN) (syms_at (old_al (old_al (new_at w oY) (oL w.heap.size)) oN))
theorem nm_at (w : World) : Kd.C Kd.string (((w.alloc oY).alloc (oL w.heap.size)).alloc oN) (some ⟨w.heap.size + 1 + 1, 0, none⟩) 1 [nS] := name_at (new_at2 w oY (oL w.heap.size) oN)
theorem hnF : nF.toList = [102] := by decide +kernel
theorem hnS : nS.toList = [115, 119, 105, 116, 99, 104] := by decide +kernel
set_option maxRecDepth 100000 in
set_option maxHeartbeats 4000000 in
theorem lives_calls (w : World) : Calls Try.prog 8 #[] w fun e w' => e = .returned (.bool true) ∧ Below w.heap.size w w' := by
  go_enter Try.func8, Try.ntmps8
  go_wp2_with fail
  refine (table_said _ 1 lv (Nat.le_refl 1) lv_cnt lv_names _ 1 [nS] (Nat.le_refl 1) _ (lv_at w) (nm_at w) _ lv_own).mono ?_
  intro e w1 h1
  obtain ⟨v, h1, hv, hb1⟩ := h1
  subst h1
  have HL1 : Aside0 (Kd.C k44 w1 (some ⟨w.heap.size + 1, 0, none⟩) lv.length lv) := ⟨Kd.C_below (lv_at w) hb1⟩
  have HB1 : Aside0 (Below w.heap.size w w1) := ⟨(below_alloc (below_alloc (below_alloc (Below.refl _ _) _) _) _).trans (hb1.mono (by simp only [World.size_alloc]; omega))⟩
  clear hb1
  obtain ⟨A1, c1, rfl, HT1⟩ : ∃ A1 c1, v = .slice A1 2 c1 ∧ Aside0 (Kd.C k37 w1 A1 tv.length tv ∧ tv.length ≤ c1) := by
    obtain ⟨A1, c1, e⟩ := Kd.R_slice hv
    subst e
    exact ⟨A1, c1, rfl, ⟨(Kd.R_reads' hv).2.2, (Kd.R_reads' hv).2.1⟩⟩
  clear hv
  go_wp2_with fail
  refine (table_said _ 1 lv (Nat.le_refl 1) lv_cnt lv_names none 0 [] (Nat.le_refl 0) _ HL1.out C_nil _ lv_nil).mono ?_
  intro e w2 h2
  obtain ⟨v2, h2, hv2, hb2⟩ := h2
  subst h2
  have HL2 : Aside0 (Kd.C k44 w2 (some ⟨w.heap.size + 1, 0, none⟩) lv.length lv) := ⟨Kd.C_below HL1.out hb2⟩
  have HT2 : Aside0 (Kd.C k37 w2 A1 tv.length tv ∧ tv.length ≤ c1) := ⟨Kd.C_below HT1.out.1 hb2, HT1.out.2⟩
  have HB2 : Aside0 (Below w.heap.size w w2) := ⟨HB1.out.trans (hb2.mono HB1.out.size)⟩
  clear hb2
  obtain ⟨A2, c2, rfl⟩ := Kd.R_slice hv2
  clear hv2
  simp only []
  go_wp2_with fail
  refine (of_calls A1 c1 tv HT2.out.2 _ 1 lv (Nat.le_refl 1) 0 1 _ HT2.out.1 HL2.out).mono ?_
  intro e w3 h3
  obtain ⟨h3, hb3⟩ := h3
  subst h3
  have hC3 := Kd.C_below HT2.out.1 hb3
  have HB3 : Aside0 (Below w.heap.size w w3) := ⟨HB2.out.trans (hb3.mono HB2.out.size)⟩
  clear hb3
  obtain ⟨ad3, rfl, t0, t1, t2, t3⟩ := at_T37 hC3 0 (by decide) (by decide)
  have hrd : rd_T37 tv 0 = ⟨nF, ⟨0, 0, -1⟩⟩ := rfl
  rw [hrd] at t0 t1 t2 t3
  have e0 : ad3.add ((0 : Int).toNat * 4) = ad3 := rfl
  rw [e0] at t0 t1 t2 t3
  rw [lv_of]
  have hal : ∀ ob, (w3.alloc ob).cell? ad3 = some (.string nF) := fun ob => cell_alloc t0 ob
  have hal1 : ∀ ob, (w3.alloc ob).cell? ⟨ad3.block, ad3.off + 1, none⟩ = some (.int .i64 0) := fun ob => cell_alloc t1 ob
  have hal2 : ∀ ob, (w3.alloc ob).cell? ⟨ad3.block, ad3.off + 1 + 1, none⟩ = some (.int .i64 0) := fun ob => cell_alloc t2 ob
  have hal3 : ∀ ob, (w3.alloc ob).cell? ⟨ad3.block, ad3.off + 1 + 2, none⟩ = some (.int .i64 (-1)) := fun ob => cell_alloc t3 ob
  clear t0 t1 t2 t3 hC3 hrd e0
  simp only []
  go_wp2_with fail
  all_goals first
    | (exfalso; rename_i h; exact h hnS)
    | (exfalso; rename_i h; exact h hnF)
    | (go_ret; exact ⟨rfl, below_alloc HB3.out _⟩)
end Go.Proofs.Ytchkjfokoenlnaa.Sym
