/- A map of names to bools: the names that were seen. -/
import Derived.Test.YtdjmahmbofhnpaaDoorQArP
import Derived.Maps.OwnSet
import Derived.StringKeys
import Derived.Test.YtdjmahmbofhnpaaDoorQApp
import Derived.Lib.SlBytesConst
namespace Go.Proofs.YtdjmahmbofhnpaaDoor.Ar
open Go.RowKit Go.Maps Go.WideMaps Go.Proofs.YtdjmahmbofhnpaaDoorW.PrintWords Go.Proofs.YtdjmahmbofhnpaaDoorW.PrintLast Go.Proofs.YtdjmahmbofhnpaaDoor.QAr
set_option linter.unusedVariables false
set_option linter.unusedSimpArgs false
def keyL (s : ByteArray) : Lit := .string s.data.toList
theorem keyL_inj {s t : ByteArray} (h : keyL s = keyL t) : s = t := by
  unfold keyL at h
  injection h with h
  cases s; cases t
  simp only [Array.toList_inj] at h
  rw [h]
theorem keyL_is (s : ByteArray) : WideAt.IsKeyLit (keyL s) := trivial
theorem law9 : Keyed Tryd.prog 9 := string_keyed Tryd.underlying9
theorem keyOf9 {s : ByteArray} (h : s.size ≤ maxLen) : keyOf Tryd.prog 9 (.string s) = some (keyL s) := keyOf_string_mk Tryd.underlying9 h
def belem (v : Value) : Option (DataW Unit × List MemPlace) :=
  match v with
  | .bool b => some (.lit (.bool b), [])
  | _ => none
theorem belem_bool {v : Value} {ps : List MemPlace} {b : Bool} (h : belem v = some (.lit (.bool b), ps)) : v = .bool b := by
  unfold belem at h
  split at h
  · rename_i c
    simp at h
    rw [h.1]
  · cases h
theorem zero4 (w : World) : (zeroValue 4).run Tryd.prog w = .ok (.bool false) w := by kernel_rfl
def MapB (wr : World) (B : Nat) (ns : List ByteArray) : Prop := ∃ D, wr.ownsMap Tryd.prog 9 belem B ns.length D ∧ IsMap D ∧ ∀ s, D.atKey (keyL s) (.lit (.bool false)) = .lit (.bool (seenB ns s))
theorem MapB.below {w w' : World} {b : Nat} {ns : List ByteArray} (h : MapB w b ns) (hb : Below w.heap.size w w') : MapB w' b ns := by
  obtain ⟨D, h0, h2⟩ := h
  have hlt := World.ownsMap.lt h0
  obtain ⟨es, clock, h1, F, hs, hD⟩ := h0
  exact ⟨D, ⟨es, clock, (hb.block b hlt).trans h1, F, hs, hD⟩, h2⟩
theorem MapB.look {wr : World} {B : Nat} {ns : List ByteArray} (h : MapB wr B ns) {s : ByteArray} (hs : s.size ≤ maxLen) :
    (Instr.lookup 40 (.map (some B)) (.string s) false).run Tryd.prog wr = .ok (.bool (seenB ns s)) wr := by
  obtain ⟨D, h1, h2, h3⟩ := h
  obtain ⟨v, q, hrun, hv⟩ := h1.lookup law9 Tryd.underlying40 (zero4 wr) (zd := .lit (.bool false)) (zp := []) rfl (keyOf9 hs)
  rw [h3 s] at hv
  rw [hrun, belem_bool hv]
theorem MapB.store {wr : World} {B : Nat} {ns : List ByteArray} (h : MapB wr B ns) (n : ByteArray) (hs : n.size ≤ maxLen) (hk : ns.length < maxLen) :
    ∃ w2, (Instr.mapUpdate 40 (.map (some B)) (.string n) (.bool true)).run Tryd.prog wr = .ok () w2 ∧ (seenB ns n = false → MapB w2 B (ns ++ [n])) ∧ wr.mapTurned w2 B := by
  obtain ⟨D, h1, h2, h3⟩ := h
  obtain ⟨w2, r1, r2, r3⟩ := h1.store law9 Tryd.underlying40 hk (keyOf9 hs) (val := .bool true) (d := .lit (.bool true)) (ps := []) (by simp [belem])
  refine ⟨w2, r1, fun hn => ⟨_, by rw [List.length_append, List.length_singleton]; exact r2, h2.put _ _, fun s => ?_⟩, r3⟩
  by_cases hse : n = s
  · subst hse
    rw [atKey_put_same h2 (keyL_is _)]
    simp [seenB]
  · rw [atKey_put_other (fun h => hse (keyL_inj h).symm), h3]
    simp [seenB, hse]
theorem MapB.made (w : World) : MapB (w.alloc (.map #[] 0)) w.heap.size [] := ⟨.map [], World.ownsMap_made _ _ _ _, isMap_empty, fun s => rfl⟩
end Go.Proofs.YtdjmahmbofhnpaaDoor.Ar

/- A row of bytes that is the call's own, or the literal that an archive begins with (its row is marked: it has no room): a text's bytes behind it are a row of the call's own. -/
namespace Go.Proofs.YtdjmahmbofhnpaaDoor.Ar
open Go.RowKit Go.Proofs.YtdjmahmbofhnpaaDoorW.PrintWords Go.Proofs.YtdjmahmbofhnpaaDoorW.PrintLast Go.Proofs.YtdjmahmbofhnpaaDoor.QAr
set_option linter.unusedVariables false
set_option linter.unusedSimpArgs false
def magA : Array Value := #[.int .u8 33, .int .u8 60, .int .u8 97, .int .u8 114, .int .u8 99, .int .u8 104, .int .u8 62, .int .u8 10]
def Out (w : World) (base : Nat) (v : Value) (bs : List Int) : Prop :=
  (Kd.int .u8).R 5 w base (fun _ => True) v bs ∨ (bs = magicB ∧ ∃ g, v = .slice (some ⟨g, 0, none⟩) 8 8 ∧ base ≤ g ∧ w.heap[g]? = some (.cells magA 5 (8, 9)))
theorem Out.below {w w' : World} {base : Nat} {v : Value} {bs : List Int} (h : Out w base v bs) (hb : Below w.heap.size w w') : Out w' base v bs := by
  rcases h with h | ⟨h1, g, h2, h3, h4⟩
  · exact .inl (Kd.R_below h hb)
  · exact .inr ⟨h1, g, h2, h3, (hb.block g (Array.getElem?_eq_some_iff.1 h4).1).trans h4⟩
theorem mag_cell {w : World} {g : Nat} (h : w.heap[g]? = some (.cells magA 5 (8, 9))) (j : Nat) (u : Value) (hj : magA.toList[j]? = some u) : w.cell? ((⟨g, 0, none⟩ : Addr).add j) = some u := by
  have h2 : (⟨g, 0, none⟩ : Addr).add j = ⟨g, j, none⟩ := by rw [Addr.add_lit, Nat.zero_add]
  rw [h2]
  unfold World.cell?
  rw [h]
  simpa using hj
theorem enc_mag : encs (Value.int .u8) magicB = magA.toList := rfl
theorem Out.reads {w : World} {base : Nat} {v : Value} {bs : List Int} (h : Out w base v bs) : ∃ A c, v = .slice A bs.length c ∧ bs.length ≤ c ∧ (Kd.int .u8).C w A bs.length bs := by
  rcases h with h | ⟨rfl, g, rfl, h3, h4⟩
  · exact Kd.R_reads h
  · refine ⟨some ⟨g, 0, none⟩, 8, rfl, by decide, ⟨rfl, by decide, fun _ => ⟨⟨g, 0, none⟩, rfl, fun j p hj => ⟨[.int .u8 p], rfl, rfl, fun i u hu => ?_⟩⟩⟩⟩
    have hi : i = 0 := by
      cases i with
      | zero => rfl
      | succ i => simp at hu
    subst hi
    have hu2 : Value.int .u8 p = u := by simpa using hu
    subst hu2
    have hj2 : magA.toList[j]? = some (.int .u8 p) := by
      rw [← enc_mag]
      unfold encs
      rw [List.getElem?_map, hj]; rfl
    have h5 := mag_cell h4 j _ hj2
    rw [show j * (Kd.int .u8).sz + 0 = j by show j * 1 + 0 = j; omega]
    exact h5
theorem keep_places {W w1 : World} {base : Nat} {ok : Nat → Prop} {u : Value} {xs : List Int} {row : Option Nat} (h : (Kd.int .i64).R 3 W base ok u xs) (hg : W.grownBy w1 row) (hty : ∀ k, row = some k → ∃ cells, W.heap[k]? = some (.cells cells 5 (0, 0))) : (Kd.int .i64).R 3 w1 base ok u xs := by
  refine Kd.R_mono (Kd.R_move (Kd.R_bound h) (fun k hk => hg.block k hk.2.2.1 (fun he => ?_))) (fun _ hk => hk.1)
  obtain ⟨_, _, _, q, hq, cells, hc⟩ := hk
  obtain ⟨cells', hc'⟩ := hty k he.symm
  rw [hc] at hc'
  injection hc' with hc'
  injection hc' with _ hc'
  subst hc'
  revert hq
  decide
theorem blk_keep {W w1 : World} {row : Option Nat} (hg : W.grownBy w1 row) (hrow : ∀ k, row = some k → ∃ cells, W.heap[k]? = some (.cells cells 5 (0, 0))) {b : Nat} {cs : Array Value} (h : W.heap[b]? = some (.cells cs 39 (0, 0))) : w1.heap[b]? = some (.cells cs 39 (0, 0)) :=
  (hg.block b (Array.getElem?_eq_some_iff.1 h).1 (fun e => by
    obtain ⟨cells, hc⟩ := hrow b e.symm
    rw [h] at hc
    injection hc with hc
    injection hc with _ hc
    exact absurd hc (by decide))).trans h
section
variable {P : Program}
theorem run_out {w0 W : World} (base : Nat) (t tx ty : TypeId) (ht : P.underlying t = some (.slice 5)) (hinfo : (P.info? 5).map (fun i => (i.zero, i.size, i.bytes)) = some (some (.int .u8 0), 1, 1))
    (v : Value) (xs ys : List Int) (x : Value) (hs : Src P 1 tx x ys.length (nums .u8 ys) W) (hne : 0 < ys.length) (HO : Out W base v xs) (HB : Below base w0 W) (hbase : base ≤ W.heap.size) (hl : xs.length + ys.length ≤ 140737488355328) :
    ∃ v1 w1, (Builtin.append_ #[t, tx] ty #[v, x]).run P W = .ok v1 w1 ∧ (Kd.int .u8).R 5 w1 base (fun _ => True) v1 (xs ++ ys) ∧ Below base w0 w1 ∧ ∃ row, W.grownBy w1 row ∧ ∀ k, row = some k → ∃ cells, W.heap[k]? = some (.cells cells 5 (0, 0)) := by
  rcases HO with HO | ⟨rfl, g, rfl, h3, h4⟩
  · obtain ⟨v1, w1, h1, h2, h3, h4, _⟩ := App.run_bytes (P := P) (w0 := w0) base t tx ty 5 ht hinfo v xs ys x (fun _ => True) hs (fun _ _ => trivial) HO HB hbase hl
    exact ⟨v1, w1, h1, h2, h3, _, h4, Kd.R_typed HO⟩
  · obtain ⟨i, hi, hz0, hz1, hz2⟩ := info_parts hinfo
    have hsz : magicB.length = 8 := rfl
    have hm63 : 8 + ys.length ≤ maxLen := by rw [hsz] at hl; unfold maxLen; omega
    have hr := run_append_grow_src (P := P) W t tx ty 5 i (.int .u8 0) ht hi hz0 (some ⟨g, 0, none⟩) 8 8 magA.toList (run_firstCells_some W.drew i.size 8 ⟨g, 0, none⟩ 8 8 magA.toList (by rw [hz1]; rfl) (fun j u hj => mag_cell (by exact h4) j u hj)) x ys.length (nums .u8 ys) (by rw [hz1]; exact hs) (by omega) (by unfold maxLen at hm63; omega) (growslice_fits (by unfold maxLen at hm63; omega) (by rw [hz2]; rw [hsz] at hl; omega))
    have hge := grownCap_ge W (8 + ys.length) 8 5
    have hcm : grownCap W (8 + ys.length) 8 5 ≤ maxLen := grownCap_le_maxLen W (8 + ys.length) 8 5 hm63
    have hlen : (magA.toList ++ nums .u8 ys).length = 8 + ys.length := by rw [List.length_append]; unfold nums; rw [List.length_map]; rfl
    refine ⟨_, _, hr, Kd.R_of_own ?_ (fun _ _ => trivial), ?_, none, ⟨rfl, rfl, rfl, by simp, fun k hk _ => heap_alloc_old W.drew _ hk⟩, fun k hk => by cases hk⟩
    · have e2 : encs (Value.int .u8) (magicB ++ ys) = magA.toList ++ nums .u8 ys := List.map_append
      rw [List.length_append, e2, hsz]
      refine ⟨by rw [hlen]; show _ = _ * 1; omega, .inr ⟨W.heap.size, _, _, rfl, hbase, heap_alloc_new W.drew _, hge, hcm, ?_, ?_⟩⟩
      · simp only [Array.size_append, List.size_toArray, size_zeroCells, hlen]
        show 8 + ys.length + _ * 1 = _ * 1
        omega
      · simp only [Array.toList_append]
        rw [show (8 + ys.length) * 1 = (magA.toList ++ nums .u8 ys).length by rw [hlen]; omega]
        exact List.take_left
    · exact pw_below_grown HB none hbase ⟨rfl, rfl, rfl, by simp, fun k hk _ => heap_alloc_old W.drew _ hk⟩ (fun q hq => by cases hq)
end
section
variable {P : Program} {ops : Array Oper} {rest : List Oper} {o : Oper} {a : Act} {Q : Exit → Act → World → Prop}
theorem Out_append_str {w0 W : World} (base : Nat) (hgd : o.guard = none) (s x : Operand) (t tx : TypeId)
    (ho : o.op = .call { callee := .builtin .append, args := #[s, x], argTypes := #[t, tx] }) (ht : P.underlying t = some (.slice 5)) (htx : P.underlying tx = some .string) (hinfo : (P.info? 5).map (fun i => (i.zero, i.size, i.bytes)) = some (some (.int .u8 0), 1, 1))
    (v : Value) (xs : List Int) (y : ByteArray) (hs : a.eval s = v) (hx : a.eval x = .string y) (hne : 0 < y.size) (HO : Out W base v xs) (HB : Below base w0 W) (hbase : base ≤ W.heap.size) (hl : xs.length + y.size ≤ 140737488355328)
    (h : ∀ v1 w1 row, (Kd.int .u8).R 5 w1 base (fun _ => True) v1 (xs ++ tb y) → Below base w0 w1 → W.grownBy w1 row → (∀ k, row = some k → ∃ cells, W.heap[k]? = some (.cells cells 5 (0, 0))) → wpList P ops Q rest (a.put o.dst v1) w1) : wpList P ops Q (o :: rest) a W := by
  have hlen := tb_len y
  obtain ⟨v1, w1, hr, h1, h2, row, h3, h4⟩ := run_out (P := P) (w0 := w0) (W := W) base t tx o.type ht hinfo v xs (tb y) (.string y) (by rw [hlen, show nums .u8 (tb y) = _ from App.nums_tb y]; exact Src.ofString W htx y) (by omega) HO HB hbase (by rw [hlen]; exact hl)
  refine wpList_plain hgd fun _ hK => ?_
  unfold Oper.wp execOp
  simp only [ho, resolve, invoke, builtin, Sem.run_bind, Sem.run_pure, Result.andThen_ok, List.map_toArray, List.map_cons, List.map_nil, hs, hx, hr]
  exact hK _ _ (h v1 w1 row h1 h2 h3 h4)
theorem Out_append_str_step {Kc : Act → World → Prop} {w0 W : World} (base : Nat) (hw : Region.wanted o (yielded ops a.tmps) = true) (s x : Operand) (t tx : TypeId)
    (ho : o.op = .call { callee := .builtin .append, args := #[s, x], argTypes := #[t, tx] }) (ht : P.underlying t = some (.slice 5)) (htx : P.underlying tx = some .string) (hinfo : (P.info? 5).map (fun i => (i.zero, i.size, i.bytes)) = some (some (.int .u8 0), 1, 1))
    (v : Value) (xs : List Int) (y : ByteArray) (hs : a.eval s = v) (hx : a.eval x = .string y) (hne : 0 < y.size) (HO : Out W base v xs) (HB : Below base w0 W) (hbase : base ≤ W.heap.size) (hl : xs.length + y.size ≤ 140737488355328)
    (h : ∀ v1 w1 row, (Kd.int .u8).R 5 w1 base (fun _ => True) v1 (xs ++ tb y) → Below base w0 w1 → W.grownBy w1 row → (∀ k, row = some k → ∃ cells, W.heap[k]? = some (.cells cells 5 (0, 0))) → Kc (a.put o.dst v1) w1) : if Region.wanted o (yielded ops a.tmps) = true then Oper.wp P o a W Kc Q else Kc (a.put o.dst undef) W := by
  have hlen := tb_len y
  obtain ⟨v1, w1, hr, h1, h2, row, h3, h4⟩ := run_out (P := P) (w0 := w0) (W := W) base t tx o.type ht hinfo v xs (tb y) (.string y) (by rw [hlen, show nums .u8 (tb y) = _ from App.nums_tb y]; exact Src.ofString W htx y) (by omega) HO HB hbase (by rw [hlen]; exact hl)
  rw [if_pos hw]
  unfold Oper.wp execOp
  simp only [ho, resolve, invoke, builtin, Sem.run_bind, Sem.run_pure, Result.andThen_ok, List.map_toArray, List.map_cons, List.map_nil, hs, hx, hr]
  exact h v1 w1 row h1 h2 h3 h4
end
end Go.Proofs.YtdjmahmbofhnpaaDoor.Ar
