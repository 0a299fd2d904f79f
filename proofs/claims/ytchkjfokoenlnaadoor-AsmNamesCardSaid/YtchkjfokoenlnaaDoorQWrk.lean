/- bulwarklaw08.works by contract: true. Condition: the sentinels' cells. -/
import Derived.Test.YtchkjfokoenlnaaDoorQPutB
import Derived.Test.YtchkjfokoenlnaaDoorQWds
namespace Go.Proofs.YtchkjfokoenlnaaDoor.Lin
open Go.RowKit Go.Proofs.YtchkjfokoenlnaaDoorW.PrintWords Go.Proofs.YtchkjfokoenlnaaDoorW.PrintLast Go.Proofs.YtchkjfokoenlnaaDoor.Ins Go.Proofs.YtchkjfokoenlnaaDoor.InsP Go.Proofs.YtchkjfokoenlnaaDoor.Err
set_option linter.unusedVariables false
set_option linter.unusedSimpArgs false
def sA : ByteArray := ⟨#[97]⟩
def sB : ByteArray := ⟨#[98]⟩
def x1 : Ln := ⟨sA, ⟨5, 0, 0, 0, 0⟩, sA⟩
def x2 : Ln := ⟨⟨#[]⟩, ⟨21, 0, 0, 0, 0⟩, sA⟩
def x3 : Ln := ⟨⟨#[]⟩, ⟨5, 0, 0, 0, 0⟩, sB⟩
def x4 : Ln := ⟨sA, ⟨21, 0, 0, 0, 0⟩, ⟨#[]⟩⟩
def x5 : Ln := ⟨sB, ⟨21, 0, 0, 0, 0⟩, ⟨#[]⟩⟩
theorem once1 {x : Ln} (h : dup [x] 0 = false) : Once [x] := fun i hi => by
  have : i = 0 := by simpa using hi
  subst this; exact h
theorem put1 : putL [x1] = ([99], 0) := by
  have h1 : Once [x1] := once1 (by decide +kernel)
  have h2 : Stand [x1] := fun i hi => by
    have : i = 0 := by simpa using hi
    subst this; right; decide +kernel
  have hw : lineW [x1] 0 = (99, 0) := by decide +kernel
  have h3 : Words [x1] := fun i hi => by
    have : i = 0 := by simpa using hi
    subst this; rw [hw]
  unfold putL
  rw [if_neg (fun h => h h1), if_neg (fun h => h h2), if_pos h3]
  unfold wordsL
  simp [hw]
theorem put_stray {x : Ln} (h1 : dup [x] 0 = false) (h2 : x.aim ≠ ⟨#[]⟩) (h3 : hasT [x] 1 x.aim = false) : putL [x] = ([], 6) := by
  have hs : ¬ Stand [x] := fun h => by
    rcases h 0 (by simp) with h | h
    · exact h2 h
    · have : hasT [x] 1 x.aim = true := h
      rw [h3] at this; cases this
  unfold putL
  rw [if_neg (fun h => h (once1 h1)), if_pos hs]
theorem put2 : putL [x2] = ([], 6) := put_stray (by decide +kernel) (by decide +kernel) (by decide +kernel)
theorem put3 : putL [x3] = ([], 6) := put_stray (by decide +kernel) (by decide +kernel) (by decide +kernel)
theorem place45 : placeL 8 [x4, x5] sB = (12, 0) := by
  have h1 : Once [x4, x5] := fun i hi => by
    have : i = 0 ∨ i = 1 := by have : i < 2 := hi; omega
    rcases this with h | h <;> subst h <;> decide +kernel
  have h2 : hasT [x4, x5] [x4, x5].length sB = true := by decide +kernel
  have h3 : idx [x4, x5] sB = 1 := by decide +kernel
  unfold placeL
  rw [if_neg (fun h => h h1), if_pos h2, h3]
  rfl
theorem wf1 : x1.Wf := by refine ⟨by decide, by decide, by decide, by decide, by decide, by decide, by decide⟩
theorem wf2 : x2.Wf := by refine ⟨by decide, by decide, by decide, by decide, by decide, by decide, by decide⟩
theorem wf3 : x3.Wf := by refine ⟨by decide, by decide, by decide, by decide, by decide, by decide, by decide⟩
theorem wf4 : x4.Wf := by refine ⟨by decide, by decide, by decide, by decide, by decide, by decide, by decide⟩
theorem wf5 : x5.Wf := by refine ⟨by decide, by decide, by decide, by decide, by decide, by decide, by decide⟩
/-- The cells of a line. -/
def cellsL (x : Ln) : List Value := [.string x.lab, .int .u8 x.ins.op, .int .u8 x.ins.rd, .int .u8 x.ins.rs1, .int .u8 x.ins.rs2, .int .i32 x.ins.imm, .string x.aim]
theorem box_at {W : World} {n : Nat} {t : TypeId} (ls : List Ln) (hl : ls.length ≤ 9223372036854775807) (hb : W.heap[n]? = some (.cells (ls.flatMap cellsL).toArray t (0, 0))) : Kd.C k33 W (some ⟨n, 0, none⟩) ls.length ls := by
  refine ⟨rfl, hl, fun _ => ⟨_, rfl, fun j p hj => ⟨cellsL p, rfl, k33_mk _ p, fun i u hu => ?_⟩⟩⟩
  have hi : i < 7 := (List.getElem?_eq_some_iff.1 hu).1
  have key : ∀ (ls : List Ln) (j : Nat), ls[j]? = some p → (ls.flatMap cellsL)[j * 7 + i]? = some u := by
    intro ls
    induction ls with
    | nil => intro j h; simp at h
    | cons y r ih =>
      intro j h
      rw [List.flatMap_cons]
      cases j with
      | zero =>
        simp only [List.getElem?_cons_zero, Option.some.injEq] at h
        subst h
        rw [Nat.zero_mul, Nat.zero_add, List.getElem?_append_left (by exact hi)]
        exact hu
      | succ j =>
        rw [List.getElem?_append_right (by show 7 ≤ _; omega)]
        have e : (j + 1) * 7 + i - (cellsL y).length = j * 7 + i := by
          have : (cellsL y).length = 7 := rfl
          omega
        rw [e]
        exact ih j (by simpa using h)
  have := key ls j hj
  have hadd : (⟨n, 0, none⟩ : Addr).add (j * 7 + i) = ⟨n, j * 7 + i, none⟩ := by
    unfold Addr.add
    simp
    omega
  show W.cell? ((⟨n, 0, none⟩ : Addr).add (j * 7 + i)) = some u
  rw [hadd]
  unfold World.cell?
  rw [hb]
  simpa using this
theorem cells5 {W : World} {n : Nat} {v0 v1 v2 v3 v4 : Value} (h : W.heap[n]? = some (.cells #[v0, v1, v2, v3, v4] 31 (0, 0))) :
    W.cell? ⟨n, 0, none⟩ = some v0 ∧ W.cell? ⟨n, 1, none⟩ = some v1 ∧ W.cell? ⟨n, 2, none⟩ = some v2 ∧ W.cell? ⟨n, 3, none⟩ = some v3 ∧ W.cell? ⟨n, 4, none⟩ = some v4 := by
  unfold World.cell?
  rw [h]
  exact ⟨rfl, rfl, rfl, rfl, rfl⟩
theorem new_at (w : World) (o : Obj) : (w.alloc o).heap[w.heap.size]? = some o := heap_alloc_new w o
theorem old_at {w : World} {n : Nat} {o' : Obj} (h : w.heap[n]? = some o') (o : Obj) : (w.alloc o).heap[n]? = some o' :=
  ((below_alloc (Below.refl _ _) o).block _ (Array.getElem?_eq_some_iff.1 h).1).trans h
theorem box_int {W : World} {n : Nat} {t : TypeId} {x : Int} (hb : W.heap[n]? = some (.cells #[.int .u32 x] t (0, 0))) : Kd.C (Kd.int .u32) W (some ⟨n, 0, none⟩) 1 [x] := by
  refine ⟨rfl, by decide, fun _ => ⟨_, rfl, fun j p hj => ⟨[.int .u32 p], rfl, rfl, fun i u hu => ?_⟩⟩⟩
  have hj0 : j = 0 := by
    have := (List.getElem?_eq_some_iff.1 hj).1
    simpa using this
  have hi0 : i = 0 := by
    have := (List.getElem?_eq_some_iff.1 hu).1
    simpa using this
  subst hj0 hi0
  simp only [List.getElem?_cons_zero, Option.some.injEq] at hj hu
  subst hj hu
  show W.cell? ⟨n, 0, none⟩ = _
  unfold World.cell?
  rw [hb]
  rfl
set_option maxRecDepth 100000 in
set_option maxHeartbeats 16000000 in
theorem works_calls (w : World) (a0 a1 : Addr) (S : Sent w a0 a1) : Calls Tryd.prog 5 #[] w fun e w' => e = .returned (.bool true) ∧ Below w.heap.size w w' := by
  have HS := Aside0.mk S
  clear S
  go_enter Tryd.func5, Tryd.ntmps5
  go_wp2_with fail
  generalize hW : (w.alloc (Obj.cells #[Value.int IntKind.u8 5, Value.int IntKind.u8 0, Value.int IntKind.u8 0, Value.int IntKind.u8 0, Value.int IntKind.i32 0] 31)).alloc (Obj.cells #[Value.int IntKind.u8 21, Value.int IntKind.u8 0, Value.int IntKind.u8 0, Value.int IntKind.u8 0, Value.int IntKind.i32 0] 31) = W
  have hWs : w.heap.size + 1 + 1 = W.heap.size := by rw [← hW]; simp
  have HB : Aside0 (Below w.heap.size w W) := ⟨by rw [← hW]; repeat (first | exact Below.refl _ _ | apply below_alloc)⟩
  have hB0 : W.heap[w.heap.size]? = some (Obj.cells #[Value.int IntKind.u8 5, Value.int IntKind.u8 0, Value.int IntKind.u8 0, Value.int IntKind.u8 0, Value.int IntKind.i32 0] 31 (0, 0)) := by rw [← hW]; exact old_at (new_at _ _) _
  have hB1 : W.heap[w.heap.size + 1]? = some (Obj.cells #[Value.int IntKind.u8 21, Value.int IntKind.u8 0, Value.int IntKind.u8 0, Value.int IntKind.u8 0, Value.int IntKind.i32 0] 31 (0, 0)) := by rw [← hW]; have := new_at (w.alloc (Obj.cells #[Value.int IntKind.u8 5, Value.int IntKind.u8 0, Value.int IntKind.u8 0, Value.int IntKind.u8 0, Value.int IntKind.i32 0] 31)) (Obj.cells #[Value.int IntKind.u8 21, Value.int IntKind.u8 0, Value.int IntKind.u8 0, Value.int IntKind.u8 0, Value.int IntKind.i32 0] 31); simpa using this
  have HB0 := Aside0.mk hB0
  have HB1 := Aside0.mk hB1
  clear hB0 hB1 hW
  simp only [hWs]
  clear hWs
  refine (put_all 0 (some ⟨W.heap.size, 0, none⟩) 1 [x1] (fun x hx => by rw [List.mem_singleton.1 hx]; exact wf1) (by decide) (by decide) _ (box_at [x1] (by decide) (new_at _ _)) a0 a1 (HS.out.below (below_alloc HB.out _))).mono ?_
  intro e w2 h2
  obtain ⟨v, h2, hv, hb2⟩ := h2
  subst h2
  rw [put1] at hv ⊢
  obtain ⟨A, c, rfl, hAc, hC⟩ := Kd.R_reads hv
  clear hv
  simp only [List.length_singleton]
  have HA := Aside0.mk hAc
  have HC2 := Aside0.mk hC
  clear hAc hC
  have HB2 : Aside0 (Below w.heap.size w w2) := ⟨(below_alloc HB.out _).trans (hb2.mono (below_alloc HB.out _).size)⟩
  have hlt := (Array.getElem?_eq_some_iff.1 HB1.out).1
  have hB0 : w2.heap[w.heap.size]? = some (Obj.cells #[Value.int IntKind.u8 5, Value.int IntKind.u8 0, Value.int IntKind.u8 0, Value.int IntKind.u8 0, Value.int IntKind.i32 0] 31 (0, 0)) := (hb2.block _ (by simp; omega)).trans (old_at HB0.out _)
  have hB1 : w2.heap[w.heap.size + 1]? = some (Obj.cells #[Value.int IntKind.u8 21, Value.int IntKind.u8 0, Value.int IntKind.u8 0, Value.int IntKind.u8 0, Value.int IntKind.i32 0] 31 (0, 0)) := (hb2.block _ (by simp; omega)).trans (old_at HB1.out _)
  clear hlt hb2 HB HB0 HB1
  have HX0 := Aside0.mk hB0
  have HX1 := Aside0.mk hB1
  obtain ⟨p0, p1, p2, p3, p4⟩ := cells5 hB1
  clear hB0 hB1
  go_wp2_with fail
  clear p0 p1 p2 p3 p4
  refine (put_all 0 (some ⟨w2.heap.size, 0, none⟩) 1 [x2] (fun x hx => by rw [List.mem_singleton.1 hx]; exact wf2) (by decide) (by decide) _ (box_at [x2] (by decide) (new_at _ _)) a0 a1 (HS.out.below (below_alloc HB2.out _))).mono ?_
  intro e w3 h3
  obtain ⟨v, h3, hv, hb3⟩ := h3
  subst h3
  rw [put2]
  clear hv
  have HB3 : Aside0 (Below w.heap.size w w3) := ⟨(below_alloc HB2.out _).trans (hb3.mono (below_alloc HB2.out _).size)⟩
  have HC3 : Aside0 (Kd.C (Kd.int .u32) w3 A 1 [99]) := ⟨Kd.C_below (Kd.C_below HC2.out (below_alloc (Below.refl _ _) _)) hb3⟩
  have hlt := (Array.getElem?_eq_some_iff.1 HX1.out).1
  have hB0 : w3.heap[w.heap.size]? = some (Obj.cells #[Value.int IntKind.u8 5, Value.int IntKind.u8 0, Value.int IntKind.u8 0, Value.int IntKind.u8 0, Value.int IntKind.i32 0] 31 (0, 0)) := (hb3.block _ (by simp; omega)).trans (old_at HX0.out _)
  have hB1 : w3.heap[w.heap.size + 1]? = some (Obj.cells #[Value.int IntKind.u8 21, Value.int IntKind.u8 0, Value.int IntKind.u8 0, Value.int IntKind.u8 0, Value.int IntKind.i32 0] 31 (0, 0)) := (hb3.block _ (by simp; omega)).trans (old_at HX1.out _)
  clear hlt hb3 HB2 HC2 HX0 HX1
  have HX0 := Aside0.mk hB0
  have HX1 := Aside0.mk hB1
  obtain ⟨p0, p1, p2, p3, p4⟩ := cells5 hB0
  clear hB0 hB1
  go_wp2_with fail
  clear p0 p1 p2 p3 p4
  refine (put_all 0 (some ⟨w3.heap.size, 0, none⟩) 1 [x3] (fun x hx => by rw [List.mem_singleton.1 hx]; exact wf3) (by decide) (by decide) _ (box_at [x3] (by decide) (new_at _ _)) a0 a1 (HS.out.below (below_alloc HB3.out _))).mono ?_
  intro e w4 h4
  obtain ⟨v4, h4, hv, hb4⟩ := h4
  subst h4
  rw [put3]
  clear hv
  have HB4 : Aside0 (Below w.heap.size w w4) := ⟨(below_alloc HB3.out _).trans (hb4.mono (below_alloc HB3.out _).size)⟩
  have HC4 : Aside0 (Kd.C (Kd.int .u32) w4 A 1 [99]) := ⟨Kd.C_below (Kd.C_below HC3.out (below_alloc (Below.refl _ _) _)) hb4⟩
  have hlt := (Array.getElem?_eq_some_iff.1 HX1.out).1
  have hB1 : w4.heap[w.heap.size + 1]? = some (Obj.cells #[Value.int IntKind.u8 21, Value.int IntKind.u8 0, Value.int IntKind.u8 0, Value.int IntKind.u8 0, Value.int IntKind.i32 0] 31 (0, 0)) := (hb4.block _ (by simp; omega)).trans (old_at HX1.out _)
  clear hlt hb4 HB3 HC3 HX0 HX1
  obtain ⟨p0, p1, p2, p3, p4⟩ := cells5 hB1
  clear hB1
  go_wp2_with fail
  clear p0 p1 p2 p3 p4
  refine (place_all 8 (by decide) (some ⟨w4.heap.size, 0, none⟩) 2 [x4, x5] (fun x hx => by rcases List.mem_cons.1 hx with h | h; (rw [h]; exact wf4); (rw [List.mem_singleton.1 h]; exact wf5)) (by decide) sB (by decide) _ (box_at [x4, x5] (by decide) (new_at _ _)) a0 a1 (HS.out.below (below_alloc HB4.out _))).mono ?_
  intro e w5 h5
  obtain ⟨h5, hb5⟩ := h5
  subst h5
  rw [place45]
  have HB5 : Aside0 (Below w.heap.size w w5) := ⟨(below_alloc HB4.out _).trans (hb5.mono (below_alloc HB4.out _).size)⟩
  have HC5 : Aside0 (Kd.C (Kd.int .u32) w5 A 1 [99]) := ⟨Kd.C_below (Kd.C_below HC4.out (below_alloc (Below.refl _ _) _)) hb5⟩
  clear hb5 HB4 HC4
  go_wp2_with fail
  refine (words_same A c (some ⟨w5.heap.size, 0, none⟩) 1 [99] _ (Kd.C_below HC5.out (below_alloc (Below.refl _ _) _)) HA.out (box_int (new_at _ _)) (by decide)).mono ?_
  intro e w6 h6
  obtain ⟨h6, ⟨nq, rfl⟩⟩ := h6
  subst h6
  go_wp2
  go_ret
  exact ⟨rfl, by repeat (first | exact below_alloc HB5.out _ | refine pw_below_drewN ?_ _)⟩
end Go.Proofs.YtchkjfokoenlnaaDoor.Lin
