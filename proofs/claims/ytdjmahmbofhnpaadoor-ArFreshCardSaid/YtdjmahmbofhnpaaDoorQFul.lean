/- Rows of bytes whose spare places hold bytes, too; slices.Clone by contract so. -/
import Derived.Test.YtdjmahmbofhnpaaDoorQArC
import Derived.Deep.AppendSrc
namespace Go.Proofs.YtdjmahmbofhnpaaDoor.Ar
open Go.RowKit Go.Proofs.YtdjmahmbofhnpaaDoorW.PrintWords Go.Proofs.YtdjmahmbofhnpaaDoorW.PrintLast Go.Proofs.YtdjmahmbofhnpaaDoor.QAr
set_option linter.unusedVariables false
set_option linter.unusedSimpArgs false
/-- Bytes through and through. -/
def AllU8 (cur : Array Value) : Prop := ∀ u ∈ cur.toList, ∃ n, u = Value.int .u8 n
/-- The slice's whole block is bytes. -/
def Full (w : World) (v : Value) : Prop := ∀ k, v.ownBlock = some k → ∃ cur, w.heap[k]? = some (.cells cur 5 (0, 0)) ∧ AllU8 cur
theorem Full.move {w w1 : World} {v : Value} (h : Full w v) (hm : ∀ k, v.ownBlock = some k → k < w.heap.size → w1.heap[k]? = w.heap[k]?) : Full w1 v := fun k hk => by
  obtain ⟨cur, h1, h2⟩ := h k hk
  exact ⟨cur, (hm k hk (Array.getElem?_eq_some_iff.1 h1).1).trans h1, h2⟩
theorem Full.nil (w : World) : Full w (.slice none 0 0) := fun k hk => by simp [Value.ownBlock] at hk
def RF (w : World) (base : Nat) (ok : Nat → Prop) (v : Value) (xs : List Int) : Prop := (Kd.int .u8).R 5 w base ok v xs ∧ Full w v
theorem RF.below {w w1 : World} {base : Nat} {ok : Nat → Prop} {v : Value} {xs : List Int} (h : RF w base ok v xs) (hb : Below w.heap.size w w1) : RF w1 base ok v xs := ⟨Kd.R_below h.1 hb, h.2.move (fun k _ hk => hb.block k hk)⟩
theorem RF.drew {w : World} {base : Nat} {ok : Nat → Prop} {v : Value} {xs : List Int} (h : RF w base ok v xs) : RF w.drew base ok v xs := h.below (below_drew (Below.refl _ _))
theorem R_mappedF {α : Type} {d : Kd α} {e base b : Nat} {w w1 : World} {ok : Nat → Prop} {v : Value} {xs : List α} (h : d.R e w base ok v xs) (ht : w.mapTurned w1 b) : d.R e w1 base ok v xs := by
  refine Kd.R_mono (Kd.R_move (Kd.R_bound h) (fun k hk => ht.grown.block k hk.2.2.1 (fun he => ?_))) (fun _ hk => hk.1)
  obtain ⟨_, _, _, q, hq, cells, hc⟩ := hk
  cases he
  obtain ⟨es, clock, es', clock', hb, _⟩ := ht
  rw [hc] at hb
  cases hb
theorem RF.mapped {w w1 : World} {base b : Nat} {ok : Nat → Prop} {v : Value} {xs : List Int} (h : RF w base ok v xs) (ht : w.mapTurned w1 b) : RF w1 base ok v xs :=
  ⟨R_mappedF h.1 ht, fun k hk => by
    obtain ⟨cur, h1, h2⟩ := h.2 k hk
    refine ⟨cur, (ht.grown.block k (Array.getElem?_eq_some_iff.1 h1).1 (fun he => ?_)).trans h1, h2⟩
    obtain ⟨es, clock, es', clock', hb, _⟩ := ht
    cases he
    rw [h1] at hb
    cases hb⟩
theorem RF.apart' {w : World} {base e' : Nat} {ok : Nat → Prop} {u v : Value} {xs : List Int} (h : RF w base ok u xs) (hty : ∀ k, v.ownBlock = some k → ∃ cells, w.heap[k]? = some (.cells cells e' (0, 0))) (ht : ∀ q, q ∈ 5 :: (Kd.int .u8).E → q ≠ e') : RF w base (fun k => ok k ∧ some k ≠ v.ownBlock) u xs := ⟨Kd.R_apart' h.1 hty ht, h.2⟩
/-- A kind's rows of bytes are full. -/
def ful {α : Type} (d : Kd α) (h5 : 5 ∈ d.E) : Kd α where
  sz := d.sz
  E := d.E
  K := d.K
  M := fun w base ok x cs => d.M w base ok x cs ∧ ∀ v ∈ cs, ∀ k, v.ownBlock = some k → ok k ∧ base ≤ k ∧ ∃ cur, w.heap[k]? = some (.cells cur 5 (0, 0)) ∧ AllU8 cur
  K_len := d.K_len
  K_one := d.K_one
  K_below := d.K_below
  K_of_M := fun h => d.K_of_M h.1
  M_mono := fun hm h => ⟨d.M_mono hm h.1, fun v hv k hk => ⟨hm k (h.2 v hv k hk).1, (h.2 v hv k hk).2⟩⟩
  M_bound := fun h => ⟨d.M_bound h.1, fun v hv k hk => by
    obtain ⟨h1, h2, cur, h3, h4⟩ := h.2 v hv k hk
    exact ⟨⟨h1, h2, (Array.getElem?_eq_some_iff.1 h3).1, 5, h5, cur, h3⟩, h2, cur, h3, h4⟩⟩
  M_move := fun hm h => ⟨d.M_move hm h.1, fun v hv k hk => by
    obtain ⟨h1, h2, cur, h3, h4⟩ := h.2 v hv k hk
    exact ⟨h1, h2, cur, (hm k h1).trans h3, h4⟩⟩
  M_lower := fun hb h => ⟨d.M_lower hb h.1, fun v hv k hk => ⟨(h.2 v hv k hk).1, Nat.le_trans hb (h.2 v hv k hk).2.1, (h.2 v hv k hk).2.2⟩⟩
def k64f : Kd S64 := ful k64 (by decide)
def k39f : Kd S39 := ful k39 (by decide)
theorem ful_R {α : Type} {d : Kd α} {h5 : 5 ∈ d.E} {e base : Nat} {w : World} {ok : Nat → Prop} {v : Value} {xs : List α} (h : (ful d h5).R e w base ok v xs) : d.R e w base ok v xs := ⟨h.1, h.2.imp_ (fun _ _ hp => hp.1)⟩
theorem RF.own {w : World} {base : Nat} {ok : Nat → Prop} {v : Value} {xs : List Int} (h : RF w base ok v xs) : ∀ k, v.ownBlock = some k → ok k ∧ base ≤ k ∧ ∃ cur, w.heap[k]? = some (.cells cur 5 (0, 0)) ∧ AllU8 cur := fun k hk => by
  obtain ⟨inner, ho⟩ := Kd.R_own h.1
  exact ⟨h.1.1 k hk, own_base ho k hk, h.2 k hk⟩
theorem k64f_mkM (w : World) (base : Nat) (ok : Nat → Prop) (x : S64) {v : Value} (h : RF w base ok v x.f2) : k64f.M w base ok x [.string x.f0, .int .i64 x.f1, v] := ⟨k64_mkM _ _ _ _ h.1, fun u hu k hk => by
  simp only [List.mem_cons, List.not_mem_nil, or_false] at hu
  rcases hu with rfl | rfl | rfl
  · simp [Value.ownBlock] at hk
  · simp [Value.ownBlock] at hk
  · exact h.own k hk⟩
theorem k39f_mkM (w : World) (base : Nat) (ok : Nat → Prop) (x : S39) {v : Value} (h : RF w base ok v x.f1) : k39f.M w base ok x [.string x.f0, v] := ⟨k39_mkM _ _ _ _ h.1, fun u hu k hk => by
  simp only [List.mem_cons, List.not_mem_nil, or_false] at hu
  rcases hu with rfl | rfl
  · simp [Value.ownBlock] at hk
  · exact h.own k hk⟩
theorem allU8_nums (xs : List Int) (k : Nat) : AllU8 ((nums .u8 xs).toArray ++ Builtin.zeroCells #[.int .u8 0] k) := by
  intro u hu
  rw [Array.toList_append, List.mem_append] at hu
  rcases hu with hu | hu
  · simp only [nums, List.mem_map] at hu
    obtain ⟨n, _, rfl⟩ := hu
    exact ⟨n, rfl⟩
  · unfold Builtin.zeroCells at hu
    rw [Array.toList_map, List.mem_map] at hu
    obtain ⟨i, _, rfl⟩ := hu
    refine ⟨0, ?_⟩
    show (#[Value.int .u8 0] : Array Value)[i % 1]! = _
    rw [Nat.mod_one]; rfl
theorem RF.lowered {w : World} {b0 base : Nat} {v : Value} {xs : List Int} (h : RF w b0 (fun _ => True) v xs) (hb : base ≤ b0) : RF w base (fun k => b0 ≤ k) v xs := ⟨Kd.R_lower (Kd.R_mono (Kd.R_bound h.1) (fun k hk => hk.2.1)) hb, h.2⟩
theorem RF.alloc {w : World} {base : Nat} {ok : Nat → Prop} {v : Value} {xs : List Int} (h : RF w base ok v xs) (o : Obj) : RF (w.alloc o) base ok v xs := h.below (below_alloc (Below.refl _ _) _)
theorem k64f_openM {w : World} {base : Nat} {ok : Nat → Prop} {x : S64} {cs : List Value} (h : k64f.M w base ok x cs) : ∃ v2, cs = [.string x.f0, .int .i64 x.f1, v2] ∧ RF w base ok v2 x.f2 := by
  obtain ⟨v2, rfl, hv⟩ := k64_openM h.1
  exact ⟨v2, rfl, hv, fun k hk => (h.2 v2 (by simp) k hk).2.2⟩
section
variable {P : Program} {ops : Array Oper} {rest : List Oper} {o : Oper} {a : Act} {Q : Exit → Act → World → Prop} {W : World}
theorem wpList_append_run (hgd : o.guard = none) (s x : Operand) (t t' : TypeId) (ho : o.op = .call { callee := .builtin .append, args := #[s, x], argTypes := #[t, t'] }) (v1 v2 v : Value) (w1 : World)
    (hs : a.eval s = v1) (hx : a.eval x = v2) (hr : (Builtin.append_ #[t, t'] o.type #[v1, v2]).run P W = .ok v w1) (h : wpList P ops Q rest (a.put o.dst v) w1) : wpList P ops Q (o :: rest) a W :=
  wpList_plain hgd fun _ hK => by
    unfold Oper.wp execOp
    simp only [ho, resolve, invoke, builtin, Sem.run_bind, Sem.run_pure, Result.andThen_ok, List.map_toArray, List.map_cons, List.map_nil, hs, hx, hr]
    exact hK _ _ h
end
/-- append([]byte{}, xs...) where the empty literal has its block. -/
theorem clone_run (w : World) (ad : Addr) (c : Nat) (xs : List Int) (hl : xs.length ≤ 140737488355328) (hr : (Kd.int .u8).C w (some ad) xs.length xs) :
    ∃ v w1, (∀ ty, (Builtin.append_ #[24, 24] ty #[.slice (some ⟨w.heap.size, 0, none⟩) 0 0, .slice (some ad) xs.length c]).run Tryd.prog (w.alloc (.cells #[] 5)) = .ok v w1) ∧ RF w1 w.heap.size (fun _ => True) v xs ∧ Below w.heap.size w w1 := by
  obtain ⟨i, hi, hz0, hz1, hz2⟩ := info_parts info5
  have hcell : ∀ j u, (nums .u8 xs)[j]? = some u → (w.alloc (.cells #[] 5)).cell? (ad.add j) = some u := by
    intro j u hj
    have hjx : j < xs.length := by
      have := (List.getElem?_eq_some_iff.1 hj).1
      simpa [nums] using this
    obtain ⟨ad', he, h2⟩ := Kd.at_int hr (j : Int) (by omega) (by omega)
    cases he
    rw [Int.toNat_natCast] at h2
    have h3 : u = .int .u8 (rd xs (j : Int)) := by
      have hj2 : (nums IntKind.u8 xs)[j]? = some (.int .u8 (xs.getD j 0)) := by
        simp [nums, List.getElem?_map, hjx]
      rw [hj] at hj2
      rw [Option.some.inj hj2]
      unfold rd
      rw [Int.toNat_natCast]
    rw [h3]
    exact ((Below.refl w.heap.size w).alloc (Nat.le_refl _) _ |>.cell (World.block_lt_of_cell? w _ h2)).trans h2
  have hs := Src.ofSlice (P := Tryd.prog) (w.alloc (.cells #[] 5)) (size := i.size) Tryd.underlying24 ad xs.length c (nums .u8 xs) (by simp [nums, hz1]) hcell (fun u hu => by
    simp only [nums, List.mem_map] at hu
    obtain ⟨n, _, rfl⟩ := hu
    rfl)
  have hnl : (nums IntKind.u8 xs).length = xs.length := by simp [nums]
  rcases Nat.eq_zero_or_pos xs.length with h0 | h0
  · obtain rfl : xs = [] := List.eq_nil_of_length_eq_zero h0
    refine ⟨.slice (some ⟨w.heap.size, 0, none⟩) 0 0, w.alloc (.cells #[] 5), fun ty => ?_, ⟨Kd.R_of_own ⟨rfl, .inr ⟨_, 0, #[], rfl, Nat.le_refl _, heap_alloc_new _ _, Nat.le_refl _, Nat.zero_le _, rfl, rfl⟩⟩ (fun _ _ => trivial), fun k hk => ?_⟩, below_alloc (Below.refl _ _) _⟩
    · exact run_append_room_src (w.alloc (.cells #[] 5)) 24 24 ty 5 i Tryd.underlying24 hi w.heap.size 0 0 0 _ 0 [] hs (Nat.le_refl _) (fun j hj => absurd hj (Nat.not_lt_zero _)) (fun j hj => absurd hj (Nat.not_lt_zero _))
    · simp only [Value.ownBlock, Option.some.injEq] at hk
      subst hk
      exact ⟨#[], heap_alloc_new _ _, fun u hu => by cases hu⟩
  · refine ⟨_, _, fun ty => run_append_grow_src (w.alloc (.cells #[] 5)) 24 24 ty 5 i (.int .u8 0) Tryd.underlying24 hi hz0 (some ⟨w.heap.size, 0, none⟩) 0 0 [] ?_ _ xs.length (nums .u8 xs) hs (by omega) (by omega) ?_, ?_, ?_⟩
    · exact run_firstCells_some _ i.size 0 _ 0 0 [] (by simp) (fun j u h => by simp at h)
    · rw [hz2, Nat.zero_add]
      exact growslice_fits h0 (by omega)
    · have hge := grownCap_ge (w.alloc (.cells #[] 5)) (0 + xs.length) 0 5
      have hle := grownCap_le_maxLen (w.alloc (.cells #[] 5)) (0 + xs.length) 0 5 (by simp only [maxLen]; omega)
      obtain ⟨G, hG⟩ : ∃ G, grownCap (w.alloc (.cells #[] 5)) (0 + xs.length) 0 5 = G := ⟨_, rfl⟩
      rw [hG] at hge hle ⊢
      have hnew : ((w.alloc (.cells #[] 5)).drew.alloc (.cells (([] ++ nums .u8 xs).toArray ++ Builtin.zeroCells (Value.int .u8 0).cells (G - (0 + xs.length))) 5)).heap[(w.alloc (.cells #[] 5)).heap.size]? = some (.cells (([] ++ nums .u8 xs).toArray ++ Builtin.zeroCells (Value.int .u8 0).cells (G - (0 + xs.length))) 5 (0, 0)) := heap_alloc_new _ _
      refine ⟨Kd.R_of_own ?_ (fun _ _ => trivial), fun k hk => ?_⟩
      · refine ⟨by simp [encs], .inr ⟨_, G, _, by rw [Nat.zero_add], by simp, hnew, by omega, hle, ?_, ?_⟩⟩
        · rw [Array.size_append, size_zeroCells]
          simp [nums, Value.cells]
          omega
        · rw [Array.toList_append, List.nil_append, Nat.mul_one, List.take_append_of_le_length (by simp [nums]), List.take_of_length_le (by simp [nums])]
          rfl
      · simp only [Value.ownBlock, Option.some.injEq] at hk
        subst hk
        exact ⟨_, hnew, allU8_nums xs _⟩
    · exact below_alloc (below_drew (below_alloc (Below.refl _ _) _)) _
set_option maxRecDepth 100000 in
set_option maxHeartbeats 4000000 in
theorem clonef_calls (A : Option Addr) (c : Nat) (xs : List Int) (hc : xs.length ≤ c) (hl : xs.length ≤ 140737488355328) (w : World) (hr : (Kd.int .u8).C w A xs.length xs) :
    Calls Tryd.prog 41 #[.slice A xs.length c] w fun e w' => ∃ v, e = .returned v ∧ RF w' w.heap.size (fun _ => True) v xs ∧ Below w.heap.size w w' := by
  have HR := Aside0.mk hr
  cases A with
  | none =>
    have hx : xs = [] := by
      cases xs with
      | nil => rfl
      | cons y r => obtain ⟨ad, h, _⟩ := hr.2.2 (Nat.succ_pos _); cases h
    subst hx
    clear hr
    have kn := fun (w : World) (a : Option Addr) (n c : Nat) => Lib.run_eql_slice_nil (P := Tryd.prog) w 24 5 a n c 0 0 Tryd.underlying24
    go_enter Tryd.func41, Tryd.ntmps41
    go_wp2_with fail
    go_ret
    exact ⟨_, rfl, ⟨Kd.R_nil _ _ _ _ _, Full.nil _⟩, Below.refl _ _⟩
  | some ad =>
    obtain ⟨v, w1, hrun, hrf, hb1⟩ := clone_run w ad c xs hl hr
    have HRUN := Aside0.mk hrun
    have HRF := Aside0.mk hrf
    have HB1 := Aside0.mk hb1
    clear hr hrun hrf hb1
    have kn := fun (w : World) (a : Option Addr) (n c : Nat) => Lib.run_eql_slice_nil (P := Tryd.prog) w 24 5 a n c 0 0 Tryd.underlying24
    go_enter Tryd.func41, Tryd.ntmps41
    go_wp2_with (first | ((with_reducible refine gate_builtin (b := .append) (xs := #[.tmp 5, .tmp 6]) rfl ?_); at_builtin; refine wpList_append_run rfl (.tmp 5) (.tmp 6) 24 24 rfl _ _ v w1 rfl rfl (HRUN.out _) ?_))
    go_ret
    exact ⟨_, rfl, HRF.out, HB1.out⟩
end Go.Proofs.YtdjmahmbofhnpaaDoor.Ar
