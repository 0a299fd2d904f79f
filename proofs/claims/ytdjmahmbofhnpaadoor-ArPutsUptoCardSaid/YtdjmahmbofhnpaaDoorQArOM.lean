/- A row of bytes of one's own that may bear a conversion's mark ('[]byte(s)' of a computed text), appended to. -/
import Derived.Test.YtdjmahmbofhnpaaDoorQArMO
import Derived.Laws.IdiomCopy
namespace Go.Proofs.YtdjmahmbofhnpaaDoor.Ar
open Go.RowKit Go.Proofs.YtdjmahmbofhnpaaDoorW.PrintWords Go.Proofs.YtdjmahmbofhnpaaDoorW.PrintLast Go.Proofs.YtdjmahmbofhnpaaDoor.QAr
set_option linter.unusedVariables false
set_option linter.unusedSimpArgs false
theorem setCell_block (W : World) (g o : Nat) (v : Value) (cur : Array Value) (e : TypeId) (fr : Nat × Nat) (hg : W.heap[g]? = some (.cells cur e fr)) : (W.setCell ⟨g, o, none⟩ v).heap[g]? = some (.cells (cur.setIfInBounds o v) e fr) := by
  unfold World.setCell
  simp [Array.getElem?_modify, hg]
theorem setCells_block (g : Nat) (e : TypeId) (fr : Nat × Nat) : ∀ (vs : List Value) (o : Nat) (W : World) (cur : Array Value), W.heap[g]? = some (.cells cur e fr) → o + vs.length ≤ cur.size →
    ∃ cur', (W.setCells g o vs).heap[g]? = some (.cells cur' e fr) ∧ cur'.toList = cur.toList.take o ++ vs ++ cur.toList.drop (o + vs.length) := by
  intro vs
  induction vs with
  | nil => intro o W cur hg h; exact ⟨cur, hg, by simp⟩
  | cons v r ih =>
    intro o W cur hg h
    simp only [List.length_cons] at h
    obtain ⟨cur', h1, h2⟩ := ih (o + 1) (W.setCell ⟨g, o, none⟩ v) (cur.setIfInBounds o v) (setCell_block W g o v cur e fr hg) (by rw [Array.size_setIfInBounds]; omega)
    refine ⟨cur', h1, ?_⟩
    rw [h2, Array.toList_setIfInBounds]
    have hl : o < cur.toList.length := by rw [Array.length_toList]; omega
    have e1 : (cur.toList.set o v).take (o + 1) = cur.toList.take o ++ [v] := by
      rw [List.take_succ_eq_append_getElem (by rw [List.length_set]; exact hl), List.getElem_set_self, List.take_set_of_le (Nat.le_refl _)]
    have e2 : (cur.toList.set o v).drop (o + 1 + r.length) = cur.toList.drop (o + (r.length + 1)) := by
      rw [List.drop_set_of_lt (by omega), show o + 1 + r.length = o + (r.length + 1) from by omega]
    rw [e1, e2]
    simp
theorem setCells_grown (g : Nat) : ∀ (vs : List Value) (o : Nat) (W : World), W.grownBy (W.setCells g o vs) (some g) := by
  intro vs
  induction vs with
  | nil => intro o W; exact ⟨rfl, rfl, rfl, Nat.le_refl _, fun _ _ _ => rfl⟩
  | cons v r ih =>
    intro o W
    have h := ih (o + 1) (W.setCell ⟨g, o, none⟩ v)
    have hs : (W.setCell ⟨g, o, none⟩ v).heap.size = W.heap.size := by unfold World.setCell; simp
    refine ⟨h.os.trans rfl, h.tape.trans rfl, h.output.trans rfl, by have := h.size; rw [hs] at this; exact this, fun k hk hne => ?_⟩
    refine (h.block k (by rw [hs]; exact hk) hne).trans ?_
    have hne2 : g ≠ k := fun e => hne (by rw [e])
    unfold World.setCell
    simp [Array.getElem?_modify, hne2]
/-- A row of bytes of one's own, marked or not. -/
def OutM (w : World) (base : Nat) (v : Value) (bs : List Int) : Prop :=
  ∃ (g c : Nat) (cur : Array Value) (lo hi : Nat), v = .slice (some ⟨g, 0, none⟩) bs.length c ∧ base ≤ g ∧ w.heap[g]? = some (.cells cur 5 (lo, hi)) ∧ (∀ j, j < c → (decide (lo ≤ j) && decide (j < hi)) = false) ∧ cur.size = c ∧ bs.length ≤ c ∧ c ≤ maxLen ∧ cur.toList.take bs.length = encs (Value.int .u8) bs
theorem OutM.below {w w' : World} {base : Nat} {v : Value} {bs : List Int} (h : OutM w base v bs) (hb : Below w.heap.size w w') : OutM w' base v bs := by
  obtain ⟨g, c, cur, lo, hi, h1, h2, h3, h4⟩ := h
  exact ⟨g, c, cur, lo, hi, h1, h2, (hb.block g (Array.getElem?_eq_some_iff.1 h3).1).trans h3, h4⟩
theorem OutM.cell {w : World} {g c lo hi : Nat} {cur : Array Value} {bs : List Int} (h3 : w.heap[g]? = some (.cells cur 5 (lo, hi))) (h7 : cur.toList.take bs.length = encs (Value.int .u8) bs) (j : Nat) (u : Value) (hj : (encs (Value.int .u8) bs)[j]? = some u) : w.cell? ((⟨g, 0, none⟩ : Addr).add j) = some u := by
  rw [Addr.add_lit, Nat.zero_add]
  unfold World.cell?
  rw [h3]
  rw [← h7] at hj
  have hlt : j < bs.length := by
    have := (List.getElem?_eq_some_iff.1 hj).1
    rw [List.length_take] at this
    omega
  rw [List.getElem?_take_of_lt hlt] at hj
  simpa using hj
theorem OutM.reads {w : World} {base : Nat} {v : Value} {bs : List Int} (h : OutM w base v bs) : ∃ A c, v = .slice A bs.length c ∧ bs.length ≤ c ∧ (Kd.int .u8).C w A bs.length bs := by
  obtain ⟨g, c, cur, lo, hi, rfl, h2, h3, h4, h5, h6, h8, h7⟩ := h
  refine ⟨some ⟨g, 0, none⟩, c, rfl, h6, ⟨rfl, by unfold maxLen at h8; omega, fun _ => ⟨⟨g, 0, none⟩, rfl, fun j p hj => ⟨[.int .u8 p], rfl, rfl, fun i u hu => ?_⟩⟩⟩⟩
  have hi0 : i = 0 := by
    cases i with
    | zero => rfl
    | succ i => simp at hu
  subst hi0
  have hu2 : Value.int .u8 p = u := by simpa using hu
  subst hu2
  have h9 := OutM.cell (c := c) h3 h7 j (.int .u8 p) (by unfold encs; rw [List.getElem?_map, hj]; rfl)
  rw [show j * (Kd.int .u8).sz + 0 = j by show j * 1 + 0 = j; omega]
  exact h9
section
variable {P : Program}
theorem run_outM {w0 W : World} (base : Nat) (t tx ty : TypeId) (ht : P.underlying t = some (.slice 5)) (hinfo : (P.info? 5).map (fun i => (i.zero, i.size, i.bytes)) = some (some (.int .u8 0), 1, 1))
    (v : Value) (xs ys : List Int) (x : Value) (hs : Src P 1 tx x ys.length (nums .u8 ys) W) (HO : OutM W base v xs) (HB : Below base w0 W) (hbase : base ≤ W.heap.size) (hl : xs.length + ys.length ≤ 140737488355328) :
    ∃ v1 w1, (Builtin.append_ #[t, tx] ty #[v, x]).run P W = .ok v1 w1 ∧ OutM w1 base v1 (xs ++ ys) ∧ Below base w0 w1 ∧ ∃ row, W.grownBy w1 row ∧ ∀ k, row = some k → (∃ c, v = .slice (some ⟨k, 0, none⟩) xs.length c) ∧ ∃ cells fr, W.heap[k]? = some (.cells cells 5 fr) := by
  obtain ⟨g, c, cur, lo, hi, rfl, h2, h3, h4, h5, h6, h8, h7⟩ := HO
  obtain ⟨i, hi0, hz0, hz1, hz2⟩ := info_parts hinfo
  have hn : (nums .u8 ys).length = ys.length := by unfold nums; rw [List.length_map]
  have hm63 : xs.length + ys.length ≤ maxLen := by unfold maxLen; omega
  have e2 : encs (Value.int .u8) (xs ++ ys) = encs (Value.int .u8) xs ++ nums .u8 ys := List.map_append
  have hexl : (encs (Value.int .u8) xs).length = xs.length := by unfold encs; rw [List.length_map]
  by_cases hr : xs.length + ys.length ≤ c
  · have hrun := run_append_room_src (P := P) (w := W) t tx ty 5 i ht hi0 g 0 xs.length c x ys.length (nums .u8 ys) (by rw [hz1]; exact hs) hr
      (fun j hj => by
        unfold World.cell?
        rw [h3, hz1]
        rw [hn] at hj
        simp only [Nat.zero_add, Nat.mul_one]
        rw [Array.getElem?_eq_getElem (by omega)]
        rfl)
      (fun j hj => by
        unfold World.frozen?
        rw [h3, hz1]
        rw [hn] at hj
        exact h4 _ (by show 0 + xs.length * 1 + j < c; omega))
    rw [hz1, Nat.zero_add, Nat.mul_one] at hrun
    obtain ⟨cur', hb1, hb2⟩ := setCells_block g 5 (lo, hi) (nums .u8 ys) xs.length W cur h3 (by rw [hn]; omega)
    have hgr := setCells_grown g (nums .u8 ys) xs.length W
    have hcl : cur.toList.length = c := by rw [Array.length_toList]; exact h5
    have hcs : cur'.size = c := by
      rw [← Array.length_toList, hb2, List.length_append, List.length_append, List.length_take, List.length_drop, hn]
      omega
    refine ⟨_, _, hrun, ⟨g, c, cur', lo, hi, by rw [List.length_append], h2, hb1, h4, hcs, by rw [List.length_append]; omega, h8, ?_⟩, pw_below_grown HB (some g) hbase hgr (fun q hq => by cases hq; exact h2), some g, hgr, fun k hk => by cases hk; exact ⟨⟨c, rfl⟩, _, _, h3⟩⟩
    rw [hb2, h7, e2, List.length_append, ← hexl, ← hn, ← List.length_append]
    exact List.take_left
  · have hrun := run_append_grow_src (P := P) W t tx ty 5 i (.int .u8 0) ht hi0 hz0 (some ⟨g, 0, none⟩) xs.length c (encs (Value.int .u8) xs) (run_firstCells_some W.drew i.size xs.length ⟨g, 0, none⟩ xs.length c (encs (Value.int .u8) xs) (by rw [hz1, hexl]; omega) (fun j u hj => OutM.cell (c := c) (by exact h3) h7 j u hj)) x ys.length (nums .u8 ys) (by rw [hz1]; exact hs) (by omega) (by unfold maxLen at hm63; omega) (growslice_fits (by omega) (by rw [hz2]; omega))
    have hge := grownCap_ge W (xs.length + ys.length) c 5
    have hcm : grownCap W (xs.length + ys.length) c 5 ≤ maxLen := grownCap_le_maxLen W (xs.length + ys.length) c 5 hm63
    have hlen : (encs (Value.int .u8) xs ++ nums .u8 ys).length = xs.length + ys.length := by rw [List.length_append, hexl, hn]
    have hgr : W.grownBy (W.drew.alloc (.cells ((encs (Value.int .u8) xs ++ nums .u8 ys).toArray ++ Builtin.zeroCells (Value.int .u8 0).cells (grownCap W (xs.length + ys.length) c 5 - (xs.length + ys.length))) 5)) none := ⟨rfl, rfl, rfl, by simp, fun k hk _ => heap_alloc_old W.drew _ hk⟩
    refine ⟨_, _, hrun, ⟨W.heap.size, _, _, 0, 0, by rw [List.length_append], hbase, heap_alloc_new W.drew _, fun j _ => by simp, ?_, by rw [List.length_append]; exact hge, hcm, ?_⟩, pw_below_grown HB none hbase hgr (fun q hq => by cases hq), none, hgr, fun k hk => by cases hk⟩
    · simp only [Array.size_append, List.size_toArray, size_zeroCells, hlen]
      show xs.length + ys.length + _ * 1 = _
      omega
    · simp only [Array.toList_append]
      rw [e2, List.length_append, ← hlen]
      exact List.take_left
end
/-- What '[]byte(s)' of a computed text leaves. -/
theorem OutM_bytes (W : World) (s : ByteArray) (base : Nat) (hb : base ≤ W.heap.size) (hs : s.size ≤ 140737488355328) : OutM (Lib.bytesWorld W 5 s) base (.slice (some ⟨W.heap.size, 0, none⟩) s.size (grownCap W s.size 0 5)) (tb s) := by
  have hge := grownCap_ge W s.size 0 5
  have hcm : grownCap W s.size 0 5 ≤ maxLen := grownCap_le_maxLen W s.size 0 5 (by unfold maxLen; omega)
  have hsz : (Lib.bytesCells W 5 s).size = grownCap W s.size 0 5 := by
    unfold Lib.bytesCells
    rw [Array.size_append, Array.size_map, Array.size_replicate]
    show s.size + _ = _
    omega
  refine ⟨W.heap.size, grownCap W s.size 0 5, _, _, _, by rw [tb_len], hb, Lib.bytesWorld_at_new W 5 s, fun j hj => ?_, hsz, by rw [tb_len]; exact hge, hcm, ?_⟩
  · rw [hsz]
    have : ¬ grownCap W s.size 0 5 ≤ j := by omega
    simp [this]
  · rw [tb_len]
    unfold Lib.bytesCells encs tb
    rw [Array.toList_append, Array.toList_map, List.map_map]
    have hl : (List.map (fun b : UInt8 => Value.int .u8 b.toNat) s.data.toList).length = s.size := by rw [List.length_map, Array.length_toList]; rfl
    rw [← hl, List.take_left]
    rfl
theorem bytesWorld_below (W : World) (s : ByteArray) : Below W.heap.size W (Lib.bytesWorld W 5 s) := bytes_below (Below.refl _ _) (Nat.le_refl _) 5 s
section
variable {P : Program}
theorem src_of_C {W : World} {A : Option Addr} {n : Nat} (c : Nat) {ys : List Int} {tx e' : TypeId} (hk : P.underlying tx = some (.slice e')) (h : (Kd.int .u8).C W A n ys) (hc : A = none → n = 0) : Src P 1 tx (.slice A n c) ys.length (nums .u8 ys) W := by
  obtain ⟨h1, h2, h3⟩ := h
  subst h1
  have hn : (nums .u8 ys).length = ys.length := by unfold nums; rw [List.length_map]
  have h1c : ∀ u ∈ nums .u8 ys, u.oneCell' = true := fun u hu => by
    unfold nums at hu
    obtain ⟨x, _, rfl⟩ := List.mem_map.1 hu
    rfl
  cases A with
  | none =>
    have h0 := hc rfl
    have hy : ys = [] := List.eq_nil_of_length_eq_zero h0
    subst hy
    exact Src.ofNil W hk c
  | some ad =>
    refine Src.ofSlice W hk ad ys.length c (nums .u8 ys) (by rw [hn, Nat.mul_one]) (fun j u hj => ?_) h1c
    unfold nums at hj
    rw [List.getElem?_map] at hj
    obtain ⟨p, hp, hu⟩ := Option.map_eq_some_iff.1 hj
    have hlt : j < ys.length := (List.getElem?_eq_some_iff.1 hp).1
    obtain ⟨ad', hA, hcells⟩ := h3 (by omega)
    injection hA with hA
    subst hA
    obtain ⟨cs, hcl, hcr, hcc⟩ := hcells j p hp
    have hcs : cs = [Value.int .u8 p] := hcr
    have := hcc 0 u (by rw [hcs, ← hu]; rfl)
    rw [show j * (Kd.int .u8).sz + 0 = j by show j * 1 + 0 = j; omega] at this
    exact this
end
theorem C_nil {W : World} {A : Option Addr} {n : Nat} {ys : List Int} (h : (Kd.int .u8).C W A n ys) : A = none → n = 0 := fun hA => by
  by_cases hn : 0 < n
  · obtain ⟨ad, h1, _⟩ := h.2.2 hn
    rw [hA] at h1
    cases h1
  · omega
section
variable {P : Program} {ops : Array Oper} {rest : List Oper} {o : Oper} {a : Act} {Q : Exit → Act → World → Prop}
theorem OutM_append {w0 W : World} (base : Nat) (hgd : o.guard = none) (s x : Operand) (t tx : TypeId)
    (ho : o.op = .call { callee := .builtin .append, args := #[s, x], argTypes := #[t, tx] }) (ht : P.underlying t = some (.slice 5)) (hinfo : (P.info? 5).map (fun i => (i.zero, i.size, i.bytes)) = some (some (.int .u8 0), 1, 1))
    (v : Value) (xs ys : List Int) (xv : Value) (hs : a.eval s = v) (hx : a.eval x = xv) (hsrc : Src P 1 tx xv ys.length (nums .u8 ys) W) (HO : OutM W base v xs) (HB : Below base w0 W) (hbase : base ≤ W.heap.size) (hl : xs.length + ys.length ≤ 140737488355328)
    (h : ∀ v1 w1 row, OutM w1 base v1 (xs ++ ys) → Below base w0 w1 → W.grownBy w1 row → (∀ k, row = some k → (∃ c, v = .slice (some ⟨k, 0, none⟩) xs.length c) ∧ ∃ cells fr, W.heap[k]? = some (.cells cells 5 fr)) → wpList P ops Q rest (a.put o.dst v1) w1) : wpList P ops Q (o :: rest) a W := by
  obtain ⟨v1, w1, hr, h1, h2, row, h3, h4⟩ := run_outM (P := P) (w0 := w0) (W := W) base t tx o.type ht hinfo v xs ys xv hsrc HO HB hbase hl
  refine wpList_plain hgd fun _ hK => ?_
  unfold Oper.wp execOp
  simp only [ho, resolve, invoke, builtin, Sem.run_bind, Sem.run_pure, Result.andThen_ok, List.map_toArray, List.map_cons, List.map_nil, hs, hx, hr]
  exact hK _ _ (h v1 w1 row h1 h2 h3 h4)
theorem OutM_append_step {Kc : Act → World → Prop} {w0 W : World} (base : Nat) (hw : Region.wanted o (yielded ops a.tmps) = true) (s x : Operand) (t tx : TypeId)
    (ho : o.op = .call { callee := .builtin .append, args := #[s, x], argTypes := #[t, tx] }) (ht : P.underlying t = some (.slice 5)) (hinfo : (P.info? 5).map (fun i => (i.zero, i.size, i.bytes)) = some (some (.int .u8 0), 1, 1))
    (v : Value) (xs ys : List Int) (xv : Value) (hs : a.eval s = v) (hx : a.eval x = xv) (hsrc : Src P 1 tx xv ys.length (nums .u8 ys) W) (HO : OutM W base v xs) (HB : Below base w0 W) (hbase : base ≤ W.heap.size) (hl : xs.length + ys.length ≤ 140737488355328)
    (h : ∀ v1 w1 row, OutM w1 base v1 (xs ++ ys) → Below base w0 w1 → W.grownBy w1 row → (∀ k, row = some k → (∃ c, v = .slice (some ⟨k, 0, none⟩) xs.length c) ∧ ∃ cells fr, W.heap[k]? = some (.cells cells 5 fr)) → Kc (a.put o.dst v1) w1) : if Region.wanted o (yielded ops a.tmps) = true then Oper.wp P o a W Kc Q else Kc (a.put o.dst undef) W := by
  obtain ⟨v1, w1, hr, h1, h2, row, h3, h4⟩ := run_outM (P := P) (w0 := w0) (W := W) base t tx o.type ht hinfo v xs ys xv hsrc HO HB hbase hl
  rw [if_pos hw]
  unfold Oper.wp execOp
  simp only [ho, resolve, invoke, builtin, Sem.run_bind, Sem.run_pure, Result.andThen_ok, List.map_toArray, List.map_cons, List.map_nil, hs, hx, hr]
  exact h v1 w1 row h1 h2 h3 h4
end
section
variable {P : Program} {ops : Array Oper} {rest : List Oper} {o : Oper} {a : Act} {Q : Exit → Act → World → Prop}
theorem OutM_append_val {w0 W : World} (base : Nat) (hgd : o.guard = none) (s x : Operand) (t : TypeId)
    (ho : o.op = .call { callee := .builtin .append, args := #[s, x], argTypes := #[t, t] }) (ht : P.underlying t = some (.slice 5)) (hinfo : (P.info? 5).map (fun i => (i.zero, i.size, i.bytes)) = some (some (.int .u8 0), 1, 1))
    (v : Value) (xs : List Int) (p : Int) (hs : a.eval s = v) (hx : a.eval x = .slice (some ⟨W.heap.size, 0, none⟩) 1 1) (HO : OutM W base v xs) (HB : Below base w0 W) (hbase : base ≤ W.heap.size) (hl : xs.length + 1 ≤ 140737488355328)
    (h : ∀ v1 w1 row, OutM w1 base v1 (xs ++ [p]) → Below base w0 w1 → (W.alloc (.cells #[.int .u8 p] 5)).grownBy w1 row → (∀ k, row = some k → (∃ c, v = .slice (some ⟨k, 0, none⟩) xs.length c) ∧ ∃ cells fr, (W.alloc (.cells #[.int .u8 p] 5)).heap[k]? = some (.cells cells 5 fr)) → wpList P ops Q rest (a.put o.dst v1) w1) : wpList P ops Q (o :: rest) a (W.alloc (.cells #[.int .u8 p] 5)) := by
  have hba : Below W.heap.size W (W.alloc (.cells #[.int .u8 p] 5)) := below_alloc (Below.refl _ _) _
  refine OutM_append (w0 := w0) base hgd s x t t ho ht hinfo v xs [p] _ hs hx ?_ (HO.below hba) (HB.trans (hba.mono hbase)) (by have := hba.size; omega) hl h
  refine Src.ofSlice _ ht _ 1 1 [.int .u8 p] rfl (fun j u hj => ?_) (fun u hu => by
    rw [List.mem_singleton] at hu
    subst hu; rfl)
  have hj0 : j = 0 := by
    cases j with
    | zero => rfl
    | succ j => simp at hj
  subst hj0
  have hu : Value.int .u8 p = u := by simpa using hj
  subst hu
  rw [Addr.add_lit, Nat.zero_add]
  unfold World.cell?
  rw [heap_alloc_new]
  rfl
end
theorem le_after (a : Nat) (l : List S39) : a ≤ after a l := by
  induction l generalizing a with
  | nil => exact Nat.le_refl _
  | cons m r ih => show a ≤ after (even a + (60 + m.f1.length)) r; have := ih (even a + (60 + m.f1.length)); unfold even at *; omega
theorem place_le (a : Nat) (l : List S39) (j : Nat) (h : j < l.length) : (places a l).getD j 0 ≤ after a l := by
  induction l generalizing a j with
  | nil => exact absurd h (Nat.not_lt_zero _)
  | cons m r ih =>
    cases j with
    | zero => show even a ≤ after (even a + (60 + m.f1.length)) r; have := le_after (even a + (60 + m.f1.length)) r; omega
    | succ j => exact ih _ j (by simpa using h)
/-- A younger row of bytes lives through an append to an elder one. -/
theorem R_keep_young {W w1 : World} {base : Nat} {ok : Nat → Prop} {u v : Value} {xs : List Int} {n : Nat} {row : Option Nat} (h : (Kd.int .u8).R 5 W base ok u xs) (hv : ∃ g c, v = .slice (some ⟨g, 0, none⟩) n c ∧ g < base) (hg : W.grownBy w1 row) (hrow : ∀ k, row = some k → (∃ c, v = .slice (some ⟨k, 0, none⟩) n c) ∧ ∃ cells fr, W.heap[k]? = some (.cells cells 5 fr)) : (Kd.int .u8).R 5 w1 base ok u xs := by
  refine Kd.R_mono (Kd.R_move (Kd.R_bound h) (fun k hk => hg.block k hk.2.2.1 (fun he => ?_))) (fun _ hk => hk.1)
  obtain ⟨⟨c, hc⟩, _⟩ := hrow k he.symm
  obtain ⟨g, c', h1, h2⟩ := hv
  rw [h1] at hc
  injection hc with hc
  injection hc with hc
  injection hc with hc
  have := hk.2.1
  omega
theorem blk_keepM {W w1 : World} {row : Option Nat} {v : Value} {n : Nat} (hg : W.grownBy w1 row) (hrow : ∀ k, row = some k → (∃ c, v = .slice (some ⟨k, 0, none⟩) n c) ∧ ∃ cells fr, W.heap[k]? = some (.cells cells 5 fr)) {b : Nat} {cs : Array Value} (h : W.heap[b]? = some (.cells cs 39 (0, 0))) : w1.heap[b]? = some (.cells cs 39 (0, 0)) :=
  (hg.block b (Array.getElem?_eq_some_iff.1 h).1 (fun e => by
    obtain ⟨_, cells, fr, hc⟩ := hrow b e.symm
    rw [h] at hc
    injection hc with hc
    injection hc with _ hc
    exact absurd hc (by decide))).trans h
end Go.Proofs.YtdjmahmbofhnpaaDoor.Ar
