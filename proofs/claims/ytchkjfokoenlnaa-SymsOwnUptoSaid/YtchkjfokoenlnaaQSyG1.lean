/- syms.gather's loops by contract: the entries of all symbols, in their order (before they are sorted). -/
import Derived.Test.YtchkjfokoenlnaaQSyG0
import Derived.Test.YtchkjfokoenlnaaQSyx11
import Derived.Deep.QuietTactic
import Derived.BigQuiet
import Derived.Deep.DeepCutAuto
import Derived.Deep.CutRange
import Derived.Deep.RegionHeld3
import Derived.StillTailTactics
import Derived.Laws.EntriesVeiled
import Derived.Outline
import Derived.Deep.Light
namespace Go.Proofs.Ytchkjfokoenlnaa.Sym
open Go.RowKit Go.Maps Go.WideMaps Go.Proofs.YtchkjfokoenlnaaW.PrintWords Go.Proofs.YtchkjfokoenlnaaW.PrintLast Go.Proofs.Ytchkjfokoenlnaa.QSy
set_option linter.unusedVariables false
set_option linter.unusedSimpArgs false
/-- The entries behind the first k symbols of an object. -/
def gSyms (es : List Ent) (i : Nat) (ss : List S47) : Nat → List Ent
  | 0 => es
  | k + 1 => gstep (gSyms es i ss k) (i : Int) (k : Int) (ss.getD k z47)
/-- The entries behind the first objects. -/
def gObjs (ls : List S44) : Nat → List Ent
  | 0 => []
  | i + 1 => gSyms (gObjs ls i) i (ls.getD i z44).f1.f1 (ls.getD i z44).f1.f1.length
def cnt (ls : List S44) : Nat := (ls.map fun x => x.f1.f1.length).sum
theorem gstep_len (es : List Ent) (i k : Int) (s : S47) : (gstep es i k s).length ≤ es.length + 1 := by
  unfold gstep updAll
  split
  · omega
  · rw [List.length_map]
    split
    · omega
    · simp
theorem gSyms_len (es : List Ent) (i : Nat) (ss : List S47) (k : Nat) : (gSyms es i ss k).length ≤ es.length + k := by
  induction k with
  | zero => exact Nat.le_refl _
  | succ k ih => have := gstep_len (gSyms es i ss k) (i : Int) (k : Int) (ss.getD k z47); simp only [gSyms]; omega
theorem gSyms_uniq {es : List Ent} (hu : Uniq es) (i : Nat) (ss : List S47) (k : Nat) : Uniq (gSyms es i ss k) := by
  induction k with
  | zero => exact hu
  | succ k ih => exact uniq_step ih _ _ _
theorem gObjs_uniq (ls : List S44) (i : Nat) : Uniq (gObjs ls i) := by
  induction i with
  | zero => exact List.nodup_nil
  | succ i ih => exact gSyms_uniq ih _ _ _
theorem gObjs_len (ls : List S44) (i : Nat) : (gObjs ls i).length ≤ cnt (ls.take i) := by
  induction i with
  | zero => simp [gObjs, cnt]
  | succ i ih =>
    have h := gSyms_len (gObjs ls i) i (ls.getD i z44).f1.f1 (ls.getD i z44).f1.f1.length
    simp only [gObjs]
    rcases Nat.lt_or_ge i ls.length with hi | hi
    · have e : cnt (ls.take (i + 1)) = cnt (ls.take i) + (ls.getD i z44).f1.f1.length := by
        unfold cnt
        rw [List.take_succ_eq_append_getElem hi, List.map_append, List.sum_append, List.getD_eq_getElem?_getD, List.getElem?_eq_getElem hi]
        simp
      omega
    · have e1 : ls.take (i + 1) = ls := List.take_of_length_le (by omega)
      have e2 : ls.take i = ls := List.take_of_length_le hi
      have e3 : (ls.getD i z44).f1.f1.length = 0 := by rw [List.getD_eq_getElem?_getD, List.getElem?_eq_none hi]; rfl
      rw [e1]; rw [e2] at ih; omega
theorem cnt_take (ls : List S44) (i : Nat) : cnt (ls.take i) ≤ cnt ls := by
  unfold cnt
  have : ls = ls.take i ++ ls.drop i := (List.take_append_drop _ _).symm
  conv => rhs; rw [this, List.map_append, List.sum_append]
  omega
theorem at_le {ls : List S44} {i k : Nat} (hi : i < ls.length) (hk : k ≤ (ls.getD i z44).f1.f1.length) : (gSyms (gObjs ls i) i (ls.getD i z44).f1.f1 k).length ≤ cnt ls := by
  have h1 := gSyms_len (gObjs ls i) i (ls.getD i z44).f1.f1 k
  have h2 := gObjs_len ls i
  have e : cnt (ls.take (i + 1)) = cnt (ls.take i) + (ls.getD i z44).f1.f1.length := by
    unfold cnt
    rw [List.take_succ_eq_append_getElem hi, List.map_append, List.sum_append, List.getD_eq_getElem?_getD, List.getElem?_eq_getElem hi]
    simp
  have h3 := cnt_take ls (i + 1)
  omega
/-- All names may be keys. -/
def NamesOk (ls : List S44) : Prop := ∀ i k, ((((ls.getD i z44).f1.f1).getD k z47).f0).size ≤ maxLen
/-- What the loops keep. -/
structure Keep (w wr : World) (v : Value) (es : List Ent) (ps : List Nat) : Prop where
  below : Below w.heap.size w wr
  map : MapG wr w.heap.size es ps
  blks : Blks w wr es ps
  row : kptr.R 60 wr w.heap.size (fun _ => True) v ps
theorem Keep.lower {w wr w' : World} {v : Value} {es : List Ent} {ps : List Nat} (h : Keep w wr v es ps) (hb : Below wr.heap.size wr w') : Keep w w' v es ps :=
  ⟨h.below.trans (hb.mono h.below.size), h.map.below hb, h.blks.below hb, Kd.R_below h.row hb⟩
theorem Keep.alloc {w wr : World} {v : Value} {es : List Ent} {ps : List Nat} (h : Keep w wr v es ps) (o : Obj) : Keep w (wr.alloc o) v es ps := h.lower ((Below.refl _ _).alloc (Nat.le_refl _) _)
theorem Keep.set_ {w wr w' : World} {v : Value} {es : List Ent} {ps : List Nat} (h : Keep w wr v es ps) {j p : Nat} {e e' : Ent} (hj : es[j]? = some e) (hp : ps[j]? = some p) (hn : e'.name = e.name) (hk : KeepBut wr w' p none) (hb : w'.heap[p]? = some (.cells (encE e').toArray 62 (0, 0))) (hbel : Below w.heap.size w w') : Keep w w' v (es.set j e') ps := by
  have h0 := (h.blks.2.2 j e p hj hp).2
  refine ⟨hbel, ?_, h.blks.set_ hj hp hk hb, ?_⟩
  · have hm : w'.heap[w.heap.size]? = wr.heap[w.heap.size]? := by
      obtain ⟨D, ⟨es1, clock, h1, _⟩, _⟩ := h.map
      refine hk.2 _ (Array.getElem?_eq_some_iff.1 h1).1 (fun e => ?_) (by simp)
      rw [e, h0] at h1
      cases h1
    obtain ⟨D, h1, h2, h3⟩ := h.map.moved hm
    exact ⟨D, by rw [List.length_set]; exact h1, h2, fun s => by rw [h3, lookP_set hj hn]⟩
  · exact Kd.R_mono (Kd.R_keep (Kd.R_types h.row h0 (by decide)) hk (fun k hk => hk.2)) (fun _ _ => trivial)
theorem cells7 {W : World} {n : Nat} {v0 v1 v2 v3 v4 v5 v6 : Value} {t : TypeId} (h : W.heap[n]? = some (.cells #[v0, v1, v2, v3, v4, v5, v6] t (0, 0))) :
    W.cell? ⟨n, 0, none⟩ = some v0 ∧ W.cell? ⟨n, 1, none⟩ = some v1 ∧ W.cell? ⟨n, 2, none⟩ = some v2 ∧ W.cell? ⟨n, 3, none⟩ = some v3 ∧ W.cell? ⟨n, 4, none⟩ = some v4 ∧ W.cell? ⟨n, 5, none⟩ = some v5 ∧ W.cell? ⟨n, 6, none⟩ = some v6 := by
  unfold World.cell?
  rw [h]
  exact ⟨rfl, rfl, rfl, rfl, rfl, rfl, rfl⟩
theorem frozen_of {W : World} {n : Nat} {t : TypeId} {cs : Array Value} (h : W.heap[n]? = some (.cells cs t (0, 0))) (i : Nat) : W.frozen? ⟨n, i, none⟩ = false := blk_frozen h i
theorem new_at (w : World) (o : Obj) : (w.alloc o).heap[w.heap.size]? = some o := heap_alloc_new w o
theorem old_at {w w' : World} {n : Nat} {o' : Obj} (h : w.heap[n]? = some o') (hb : Below w.heap.size w w') : w'.heap[n]? = some o' := (hb.block _ (Array.getElem?_eq_some_iff.1 h).1).trans h
theorem rank_f (y : S47) : syms_rank.f y.f0 y.f1 y.f2 y.f3 y.f4 y.f5 y.f6 = some (rankOf y) := by
  unfold syms_rank.f rankOf
  split
  · rfl
  · split
    · rfl
    · split <;> rfl
set_option maxHeartbeats 1000000 in
theorem nobody_exact (w : World) : Calls Try.prog 32 #[] w fun e w' => e = .returned (.agg #[.int .i64 (-1), .int .i64 0, .int .i64 (-1)]) ∧ w' = w.alloc (Obj.cells #[.int .i64 (-1), .int .i64 0, .int .i64 (-1)] 32) := by
  go_enter Try.func32, Try.ntmps32
  go_wp2
  refine bodyPost_ret (v := .agg #[.int .i64 (-1), .int .i64 0, .int .i64 (-1)]) (by simp [results, Try.results32, go_sem]) rfl ⟨rfl, rfl⟩
/-- The entry's cells behind the first two changes. -/
def ar7 (en : ByteArray) (eo es ew er : Int) (et ewt : Bool) : Array Value := #[.string en, .int .i64 eo, .int .i64 es, .int .i64 ew, .int .i64 er, .bool et, .bool ewt]
theorem info60 : (Try.prog.info? 60).map (fun i => (i.zero, i.size, i.bytes)) = some (some (.pointer none), 1, 8) := by kernel_rfl
theorem new_is {W : World} {n : Nat} {o : Obj} (h : n = W.heap.size) : (W.alloc o).heap[n]? = some o := by rw [h]; exact heap_alloc_new W o
theorem turned_cells {w w' : World} {B n : Nat} {cs : Array Value} {t : TypeId} (ht : w.mapTurned w' B) (h : w.heap[n]? = some (.cells cs t (0, 0))) : w'.heap[n]? = some (.cells cs t (0, 0)) := by
  refine (ht.grown.block _ (Array.getElem?_eq_some_iff.1 h).1 (fun e => ?_)).trans h
  obtain ⟨es, clock, es', clock', h1, h2⟩ := ht
  cases e
  rw [h] at h1
  cases h1
theorem Keep.row_turned {w wr w3 : World} {v : Value} {es : List Ent} {ps : List Nat} (h : Keep w wr v es ps) (ht : wr.mapTurned w3 w.heap.size) : kptr.R 60 w3 w.heap.size (fun _ => True) v ps := by
  obtain ⟨es1, clock, es', clock', h1, h2⟩ := ht
  have ht : wr.mapTurned w3 w.heap.size := ⟨es1, clock, es', clock', h1, h2⟩
  refine Kd.R_mono (Kd.R_grown (Kd.R_bound h.row) ht.grown (fun k hk e => ?_)) (fun _ _ => trivial)
  obtain ⟨_, _, _, q, _, cells, hc⟩ := hk
  cases e
  rw [hc] at h1
  cases h1
theorem Keep.added {w wc w3 w7 : World} {v v' : Value} {es : List Ent} {ps : List Nat} {e : Ent} {pb : Nat} (h : Keep w wc v es ps) (hm3 : MapG w3 w.heap.size (es ++ [e]) (ps ++ [pb])) (ht : wc.mapTurned w3 w.heap.size) (hb : wc.heap[pb]? = some (.cells (encE e).toArray 62 (0, 0))) (hpb : pb ∉ ps) (hpl : w.heap.size ≤ pb) (hr : kptr.R 60 w7 w.heap.size (fun _ => True) v' (ps ++ [pb])) (hb7 : Below w.heap.size w w7) (hg : w3.grownBy w7 v.ownBlock) : Keep w w7 v' (es ++ [e]) (ps ++ [pb]) := by
  have hr3 := h.row_turned ht
  refine ⟨hb7, hm3.moved ?_, ?_, hr⟩
  · obtain ⟨es1, clock, es', clock', h1, h2⟩ := ht
    obtain ⟨D, ⟨es2, clock2, h3, _⟩, _⟩ := hm3
    refine hg.block _ (Array.getElem?_eq_some_iff.1 h3).1 (fun e => ?_)
    obtain ⟨inner, ho⟩ := Kd.R_own hr3
    obtain ⟨cells, hc⟩ := own_typed ho _ e.symm
    rw [h3] at hc
    cases hc
  · refine Blks.snoc ?_ e pb hpl ?_ hpb
    · refine (h.blks.moved (w' := w3) (fun k c hk => ?_)).moved (fun k c hk => ?_)
      · exact (turned_cells ht hk).trans hk.symm
      · exact hg.block _ (Array.getElem?_eq_some_iff.1 hk).1 (Kd.R_ne hr3 hk (by decide))
    · have h3 := turned_cells ht hb
      exact (hg.block _ (Array.getElem?_eq_some_iff.1 h3).1 (Kd.R_ne hr3 h3 (by decide))).trans h3
end Go.Proofs.Ytchkjfokoenlnaa.Sym
