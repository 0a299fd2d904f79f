/- syms.Table by contract: tableS of the entries. -/
import Derived.Test.YtchkjfokoenlnaaQSyG2
import Derived.Test.YtchkjfokoenlnaaQSyI
import Derived.Test.YtchkjfokoenlnaaWTab
import Derived.Outline
namespace Go.Proofs.Ytchkjfokoenlnaa.Sym
open Go.RowKit Go.Maps Go.WideMaps Go.Proofs.YtchkjfokoenlnaaW.PrintWords Go.Proofs.YtchkjfokoenlnaaW.PrintLast Go.Proofs.Ytchkjfokoenlnaa.QSy
set_option linter.unusedVariables false
set_option linter.unusedSimpArgs false
def okE (own : List ByteArray) (e : Ent) : Bool := decide (0 < e.rank) || (decide (0 ≤ idxS own e.name) || !e.wanted)
def tgtE (own : List ByteArray) (e : Ent) : S32 := if 0 < e.rank then ⟨e.obj, e.sym, e.own⟩ else if 0 ≤ idxS own e.name then ⟨-1, 0, idxS own e.name⟩ else ⟨e.obj, e.sym, e.own⟩
def lineE (own : List ByteArray) (e : Ent) : S37 := ⟨e.name, tgtE own e⟩
/-- What the table is, or whose name is wrong, and how. -/
def tableS (own : List ByteArray) (es : List Ent) : List S37 × ByteArray × Int :=
  match es.find? Ent.twice with
  | some e => ([], e.name, 7)
  | none => match es.find? (fun e => !okE own e) with
    | some e => ([], e.name, 6)
    | none => (es.map (lineE own), ⟨#[]⟩, 0)
theorem find_at {α : Type} (p : α → Bool) (l : List α) (j : Nat) (x : α) (hx : l[j]? = some x) (h : ∀ i y, i < j → l[i]? = some y → p y = false) (hp : p x = true) : l.find? p = some x := by
  rw [List.find?_eq_some_iff_getElem]
  have hlt := (List.getElem?_eq_some_iff.1 hx).1
  refine ⟨hp, j, hlt, by rw [List.getElem?_eq_getElem hlt] at hx; exact Option.some.inj hx, fun i hi => ?_⟩
  have := h i l[i] hi (List.getElem?_eq_getElem (by omega))
  simp [this]
theorem find_none {α : Type} (p : α → Bool) (l : List α) (h : ∀ x ∈ l, p x = false) : l.find? p = none := by
  rw [List.find?_eq_none]
  intro x hx
  simp [h x hx]
theorem placeI_cases {α : Type} (p : α → Bool) (l : List α) : (placeI p l 0 = -1 ∧ ∀ x ∈ l, p x = false) ∨ ∃ (j : Nat) (x : α), placeI p l 0 = (j : Int) ∧ l[j]? = some x ∧ p x = true ∧ ∀ i y, i < j → l[i]? = some y → p y = false := by
  cases h : l.find? p with
  | none =>
    have h2 : ∀ x ∈ l, p x = false := fun x hx => by have := List.find?_eq_none.1 h x hx; simpa using this
    exact .inl ⟨placeI_none p l 0 h2, h2⟩
  | some x =>
    obtain ⟨h1, j, hj, h2, h3⟩ := List.find?_eq_some_iff_getElem.1 h
    have hx : l[j]? = some x := by rw [List.getElem?_eq_getElem hj, h2]
    have h4 : ∀ i y, i < j → l[i]? = some y → p y = false := fun i y hi hy => by
      have := h3 i hi
      rw [List.getElem?_eq_getElem (by omega)] at hy
      cases hy
      simpa using this
    exact .inr ⟨j, x, by rw [placeI_at p l j x hx h4, if_pos h1], hx, h1, h4⟩
/-- What the loop keeps. -/
structure KeepT (w wr : World) (v7 v9 : Value) (es : List Ent) (ps : List Nat) (xs : List S37) (j : Nat) : Prop where
  below : Below w.heap.size w wr
  blks : ∀ (i : Nat) (e : Ent) (p : Nat), j ≤ i → es[i]? = some e → ps[i]? = some p → w.heap.size ≤ p ∧ wr.heap[p]? = some (.cells (encE e).toArray 62 (0, 0))
  row : kptr.R 60 wr w.heap.size (fun _ => True) v7 ps
  out : k37.R 37 wr w.heap.size (fun _ => True) v9 xs
theorem KeepT.lower {w wr w' : World} {v7 v9 : Value} {es : List Ent} {ps : List Nat} {xs : List S37} {j : Nat} (h : KeepT w wr v7 v9 es ps xs j) (hb : Below wr.heap.size wr w') : KeepT w w' v7 v9 es ps xs j :=
  ⟨h.below.trans (hb.mono h.below.size), fun i e p hi h1 h2 => ⟨(h.blks i e p hi h1 h2).1, (hb.block _ (Array.getElem?_eq_some_iff.1 (h.blks i e p hi h1 h2).2).1).trans (h.blks i e p hi h1 h2).2⟩, Kd.R_below h.row hb, Kd.R_below h.out hb⟩
/-- A store into an entry that is done with. -/
theorem KeepT.set_ {w wr w' : World} {v7 v9 : Value} {es : List Ent} {ps : List Nat} {xs : List S37} {j p : Nat} {e : Ent} (h : KeepT w wr v7 v9 es ps xs j) (hnd : ps.Nodup) (hj : es[j]? = some e) (hp : ps[j]? = some p) (hk : KeepBut wr w' p none) (hb : Below w.heap.size w w') : KeepT w w' v7 v9 es ps xs (j + 1) := by
  have h0 := (h.blks j e p (Nat.le_refl _) hj hp).2
  refine ⟨hb, fun i x q hi h1 h2 => ?_, Kd.R_mono (Kd.R_keep (Kd.R_types h.row h0 (by decide)) hk (fun k hk => hk.2)) (fun _ _ => trivial), Kd.R_mono (Kd.R_keep (Kd.R_types h.out h0 (by decide)) hk (fun k hk => hk.2)) (fun _ _ => trivial)⟩
  have hq := h.blks i x q (by omega) h1 h2
  have hne : q ≠ p := fun e => by
    subst e
    have := (List.getElem?_inj (List.getElem?_eq_some_iff.1 hp).1 hnd).1 (hp.trans h2.symm)
    omega
  exact ⟨hq.1, hk.blk hq.2 hne (by simp)⟩
theorem KeepT.next {w wr : World} {v7 v9 : Value} {es : List Ent} {ps : List Nat} {xs : List S37} {j : Nat} (h : KeepT w wr v7 v9 es ps xs j) : KeepT w wr v7 v9 es ps xs (j + 1) :=
  ⟨h.below, fun i e p hi => h.blks i e p (by omega), h.row, h.out⟩
theorem KeepT.app {w wr w' : World} {v7 v9 v' : Value} {es : List Ent} {ps : List Nat} {xs ys : List S37} {j : Nat} (h : KeepT w wr v7 v9 es ps xs j) (hr : k37.R 37 w' w.heap.size (fun _ => True) v' ys) (hb : Below w.heap.size w w') (hg : wr.grownBy w' v9.ownBlock) : KeepT w w' v7 v' es ps ys j := by
  refine ⟨hb, fun i x q hi h1 h2 => ?_, ?_, hr⟩
  · have hq := h.blks i x q hi h1 h2
    exact ⟨hq.1, (hg.block _ (Array.getElem?_eq_some_iff.1 hq.2).1 (Kd.R_ne h.out hq.2 (by decide))).trans hq.2⟩
  · refine Kd.R_mono (Kd.R_grown (Kd.R_bound h.row) hg (fun k hk e => ?_)) (fun _ _ => trivial)
    obtain ⟨_, _, _, q, hq, cells, hc⟩ := hk
    obtain ⟨inner, ho⟩ := Kd.R_own h.out
    obtain ⟨cells2, hc2⟩ := own_typed ho _ e.symm
    rw [hc] at hc2
    injection hc2 with hc2
    injection hc2 with h1 h2
    rw [h2] at hq
    revert hq
    decide
theorem lines_len (own : List ByteArray) (es : List Ent) (j : Nat) (h : j ≤ es.length) : ((es.take j).map (lineE own)).length = j := by simp; omega
theorem lines_succ (own : List ByteArray) (es : List Ent) (j : Nat) (e : Ent) (h : es[j]? = some e) : (es.take (j + 1)).map (lineE own) = (es.take j).map (lineE own) ++ [lineE own e] := by
  have hlt := (List.getElem?_eq_some_iff.1 h).1
  rw [List.take_succ_eq_append_getElem hlt, List.map_append]
  rw [List.getElem?_eq_getElem hlt] at h
  rw [Option.some.inj h]; rfl
def T9_15 : Bool × List (List Nat × List Nat) := (true, [([], []), ([], []), ([1], [1]), ([2], [2]), ([3], [3]), ([], []), ([5], [5]), ([6], [6]), ([7], [7]), ([4, 8], [4, 8]), ([9], [9]), ([0, 10], [0, 10]), ([11, 11, 0, 1, 2, 3, 4, 5, 6, 7, 8, 9, 10, 11], [0, 11])])
theorem tab9_15 : rtab .any (opsOf Try.f9 15) = T9_15 := by kernel_rfl
def B9_15 : List Nat := [0, 0, 2, 6, 14, 0, 32, 96, 224, 510, 1022, 2047, 4095]
theorem bits9_15 : waitsOk T9_15.2 B9_15 = true := by kernel_rfl
set_option maxRecDepth 100000 in
set_option maxHeartbeats 16000000 in
theorem table_calls (A : Option Addr) (c : Nat) (ls : List S44) (hc : ls.length ≤ c) (hn : cnt ls ≤ 400) (hno : NamesOk ls) (A1 : Option Addr) (c1 : Nat) (own : List ByteArray) (hc1 : own.length ≤ c1) (w : World) (hr : Kd.C k44 w A ls.length ls) (hr1 : Kd.C Kd.string w A1 own.length own) :
    Calls Try.prog 9 #[.slice A ls.length c, .slice A1 own.length c1] w fun e w' => ∃ v, e = .returned (.tuple #[v, .string (tableS own (sortE (gObjs ls ls.length))).2.1, .int .i64 (tableS own (sortE (gObjs ls ls.length))).2.2]) ∧ k37.R 37 w' w.heap.size (fun _ => True) v (tableS own (sortE (gObjs ls ls.length))).1 ∧ Below w.heap.size w w' := by
  have GC := Aside0.mk (gather_walk A c ls hc hn hno w hr)
  have HR1 := Aside0.mk hr1
  have HC1 := Aside0.mk hc1
  have hel : (sortE (gObjs ls ls.length)).length ≤ 400 := by
    unfold sortE
    rw [List.length_mergeSort]
    exact Nat.le_trans (gObjs_len ls ls.length) (Nat.le_trans (cnt_take _ _) hn)
  obtain ⟨es, hes⟩ : ∃ es, sortE (gObjs ls ls.length) = es := ⟨_, rfl⟩
  rw [hes] at GC hel ⊢
  have HEL := Aside0.mk hel
  obtain ⟨ts, hts⟩ : ∃ ts, tableS own es = ts := ⟨_, rfl⟩
  rw [hts]
  have HTS := Aside0.mk hts
  clear hr hr1 hc hn hno hc1 hes hel hts
  go_enter Try.func9, Try.ntmps9
  go_wp2_with fail
  refine GC.out.mono ?_
  clear GC
  intro e w1 h1
  obtain ⟨v7, ps, h1, hbk, hrw, hbl⟩ := h1
  subst h1
  obtain ⟨A7, c7, rfl, hle7, hC7⟩ := Kd.R_reads hrw
  have HBK := Aside0.mk hbk
  have HRW := Aside0.mk hrw
  have HBL := Aside0.mk hbl
  have HC7 := Aside0.mk hC7
  have IC := Aside0.mk (idxTwice_calls A7 c7 es ps w1 hC7 hbk.1 (fun j e p h1 h2 => (hbk.2.2 j e p h1 h2).2))
  obtain ⟨ti, hti⟩ : ∃ ti, placeI Ent.twice es 0 = ti := ⟨_, rfl⟩
  rw [hti] at IC
  have HTI := Aside0.mk hti
  clear hbk hrw hbl hle7 hC7 hti
  go_wp2_with fail
  refine IC.out.mono ?_
  clear IC
  rintro e w2 ⟨rfl, rfl⟩
  by_cases ht : 0 ≤ ti
  · obtain ⟨j, x, hj, hx, hxt, hfirst⟩ : ∃ (j : Nat) (x : Ent), ti = (j : Int) ∧ es[j]? = some x ∧ x.twice = true ∧ ∀ i y, i < j → es[i]? = some y → y.twice = false := by
      rcases placeI_cases Ent.twice es with ⟨h, _⟩ | ⟨j, x, h1, h2⟩
      · rw [HTI.out] at h; omega
      · exact ⟨j, x, by rw [← HTI.out]; exact h1, h2⟩
    subst hj
    have hlt := (List.getElem?_eq_some_iff.1 hx).1
    have hjp : j < ps.length := by rw [HBK.out.1]; exact hlt
    have hjI : (j : Int) < (ps.length : Int) := by omega
    obtain ⟨ad, cs, e0, _, hK, hc0⟩ := Kd.C_get HC7.out 0 (j : Int) (by omega) hjI
    obtain ⟨p, hp⟩ : ∃ p, ps.getD j 0 = p := ⟨_, rfl⟩
    have hK2 : cs = [.pointer (some ⟨p, 0, none⟩)] := by rw [← hp]; exact hK
    have f0 : w2.cell? (ad.add j) = some (.pointer (some ⟨p, 0, none⟩)) := by
      have := hc0 0 _ (by rw [hK2]; rfl)
      rw [Int.toNat_natCast] at this
      simpa [kptr, Kd.scalar] using this
    subst e0
    have hpj : ps[j]? = some p := by rw [List.getElem?_eq_getElem hjp, ← hp, List.getD_eq_getElem?_getD, List.getElem?_eq_getElem hjp]; rfl
    have hcell : w2.cell? ⟨p, 0, none⟩ = some (.string x.name) := blk_cell (HBK.out.2.2 j x p hx hpj).2 0
    have HF : Aside0 (ts = ([], x.name, 7)) := ⟨by rw [← HTS.out]; unfold tableS; rw [find_at Ent.twice es j x hx hfirst hxt]⟩
    clear hK hc0 hK2 hp hpj hx hxt hfirst ht
    go_wp2
    go_quiet (fail)
    go_wp2
    refine bodyPost_ret (v := .tuple #[.slice none 0 0, .string x.name, .int .i64 7]) (by simp [results, Try.results9, go_sem]) rfl ?_
    rw [HF.out]
    exact ⟨_, rfl, Kd.R_nil _ _ _ _ _, by repeat (first | exact HBL.out | refine pw_below_drewN ?_ _)⟩
  · have HTW : Aside0 (es.find? Ent.twice = none) := ⟨find_none _ _ (fun x hx => by
      rcases placeI_cases Ent.twice es with ⟨_, h⟩ | ⟨j, x, h1, _⟩
      · exact h x hx
      · rw [HTI.out] at h1; omega)⟩
    go_wp2
    have HL : Aside0 (ps.length = es.length) := ⟨HBK.out.1⟩
    have hps : ps.length ≤ 400 := by rw [HL.out]; exact HEL.out
    go_loopw [9, 28] (fun v9 v28 wr => ∃ j : Nat, v28 = .int .i64 j ∧ Aside0 (j ≤ ps.length) ∧ Aside0 (∀ i y, i < j → es[i]? = some y → okE own y = true) ∧ Aside0 (KeepT w wr (.slice A7 ps.length c7) v9 es ps ((es.take j).map (lineE own)) j)) (fun _ v28 _ => ps.length - (intOf v28).toNat)
    case atStart => exact ⟨0, rfl, ⟨Nat.zero_le _⟩, ⟨fun i y hi => absurd hi (Nat.not_lt_zero _)⟩, ⟨HBL.out, fun i e p _ h1 h2 => HBK.out.2.2 i e p h1 h2, HRW.out, Kd.R_nil _ _ _ _ _⟩⟩
    case round =>
      obtain ⟨j, rfl, HJ, HD, HK⟩ := hrel
      by_cases hj : j < ps.length
      · have hjI : (j : Int) < (ps.length : Int) := by omega
        have hj2 : j < es.length := by rw [← HL.out]; exact hj
        obtain ⟨A8, c8, hv8, _, hC8⟩ := Kd.R_reads HK.out.row
        injection hv8 with hA8 _ hc8
        rw [← hA8] at hC8
        clear hA8 hc8
        obtain ⟨ad, cs, e0, _, hK, hc0⟩ := Kd.C_get hC8 0 (j : Int) (by omega) hjI
        obtain ⟨p, hp⟩ : ∃ p, ps.getD j 0 = p := ⟨_, rfl⟩
        have hK2 : cs = [.pointer (some ⟨p, 0, none⟩)] := by rw [← hp]; exact hK
        have f0 : wr.cell? (ad.add j) = some (.pointer (some ⟨p, 0, none⟩)) := by
          have := hc0 0 _ (by rw [hK2]; rfl)
          rw [Int.toNat_natCast] at this
          simpa [kptr, Kd.scalar] using this
        subst e0
        obtain ⟨x, hx⟩ : ∃ x, es[j] = x := ⟨_, rfl⟩
        have hxj : es[j]? = some x := by rw [List.getElem?_eq_getElem hj2, hx]
        have hpj : ps[j]? = some p := by rw [List.getElem?_eq_getElem hj, ← hp, List.getD_eq_getElem?_getD, List.getElem?_eq_getElem hj]; rfl
        obtain ⟨hpb, hblk⟩ := HK.out.blks j x p (Nat.le_refl _) hxj hpj
        have HXJ := Aside0.mk hxj
        have HPJ := Aside0.mk hpj
        have HPB := Aside0.mk hpb
        have hwk : wrap64 ((j : Int) + 1) = ((j + 1 : Nat) : Int) := by unfold wrap64; omega
        obtain ⟨xn, xo, xs, xw, xr, xt, xwt⟩ := x
        obtain ⟨q0, q1, q2, q3, q4, q5, q6⟩ := cells7 hblk
        have hfz := frozen_of hblk
        have HBLK := Aside0.mk hblk
        have NC := Aside0.mk (fun w3 hb3 => index_calls A1 c1 own xn w3 (Kd.C_below HR1.out hb3) HC1.out)
        obtain ⟨ix, hix⟩ : ∃ ix, idxS own xn = ix := ⟨_, rfl⟩
        rw [hix] at NC
        have HIX := Aside0.mk hix
        clear hK hc0 hK2 hp hx hxj hpj hpb hblk hC8 hix
        go_wp2_with fail
        refine (NC.out _ HK.out.below).mono ?_
        intro e w3 h3
        obtain ⟨h3, ⟨nq, rfl⟩⟩ := h3
        subst h3
        by_cases hr : 0 < xr
        · have HEX : Aside0 (okE own ⟨xn, xo, xs, xw, xr, xt, xwt⟩ = true ∧ lineE own ⟨xn, xo, xs, xw, xr, xt, xwt⟩ = ⟨xn, xo, xs, xw⟩) := ⟨by unfold okE lineE tgtE; simp [hr]⟩
          have HKD : Aside0 (KeepT w (wr.drewN nq) (.slice (some ad) ps.length c7) u9 es ps ((es.take j).map (lineE own)) (j + 1)) := ⟨(HK.out.lower (pw_below_drewN (Below.refl _ _) _)).next⟩
          have HBD := Aside0.mk (blk_drewN HBLK.out nq)
          go_upto_region 15 with fail
          have HKR : Aside0 (KeepT w ((wr.drewN nq).drew) (.slice (some ad) ps.length c7) u9 es ps ((es.take j).map (lineE own)) (j + 1)) := ⟨HKD.out.lower (below_drew (Below.refl _ _))⟩
          refine start_ (n := 13) (S := fun w' => w'.cell? ⟨p, 0, none⟩ = some (.string xn) ∧ w'.cell? ⟨p, 1, none⟩ = some (.int .i64 xo) ∧ w'.cell? ⟨p, 2, none⟩ = some (.int .i64 xs) ∧ w'.cell? ⟨p, 3, none⟩ = some (.int .i64 xw)) (ds := [10, 11]) #[false, false, false, false, false, false, false, false, false, false, false, false, false] (by kernel_rfl) rfl rfl ⟨blk_cell HBD.out 0, blk_cell HBD.out 1, blk_cell HBD.out 2, blk_cell HBD.out 3⟩ (fun hHeld => ?_)
          refine with_tabW tab9_15 bits9_15 (fun HT_ HW_ => ?_)
          generalize (wr.drewN nq).drew = wd at HKR hHeld ⊢
          refine pure_ (i := 0) (N := some 61) (v := ?_) (a' := ?_) #[true, false, false, false, false, false, false, false, false, false, false, false, false] rfl rfl (any_of HT_.out (by kernel_rfl)) (fun _ _ _ h => h) (Or.inl ⟨by rfl, ?_⟩) ?_ ?_
          rotate_left
          · intro w'
            go_simp
            with_reducible rfl
          rotate_left
          · skip
            simp only [Act.put, List.setIfInBounds_toArray, List.set_cons_zero, List.set_cons_succ, i64_w, i32_w]
            rfl
          refine pure_ (i := 1) (N := some 62) (v := ?_) (a' := ?_) #[true, true, false, false, false, false, false, false, false, false, false, false, false] rfl rfl (any_of HT_.out (by kernel_rfl)) (fun _ _ _ h => h) (Or.inl ⟨by rfl, ?_⟩) ?_ ?_
          rotate_left
          · intro w'
            go_simp
            with_reducible rfl
          rotate_left
          · skip
            simp only [Act.put, List.setIfInBounds_toArray, List.set_cons_zero, List.set_cons_succ, i64_w, i32_w]
            rfl
          refine pure_ (i := 2) (N := some 63) (v := ?_) (a' := ?_) #[true, true, true, false, false, false, false, false, false, false, false, false, false] rfl rfl (any_of HT_.out (by kernel_rfl)) (fun _ _ _ h => h) (Or.inl ⟨by rfl, ?_⟩) ?_ ?_
          rotate_left
          · intro w'
            go_simp
            with_reducible rfl
          rotate_left
          · skip
            simp only [Act.put, List.setIfInBounds_toArray, List.set_cons_zero, List.set_cons_succ, i64_w, i32_w]
            rfl
          refine pure_ (i := 3) (N := some 64) (v := ?_) (a' := ?_) #[true, true, true, true, false, false, false, false, false, false, false, false, false] rfl rfl (any_of HT_.out (by kernel_rfl)) (fun _ _ _ h => h) (Or.inl ⟨by rfl, ?_⟩) ?_ ?_
          rotate_left
          · intro w'
            go_simp
            with_reducible rfl
          rotate_left
          · skip
            simp only [Act.put, List.setIfInBounds_toArray, List.set_cons_zero, List.set_cons_succ, i64_w, i32_w]
            rfl
          refine take_ (i := 4) (N := some 65) (v := ?_) (a' := ?_) #[true, true, true, true, true, false, false, false, false, false, false, false, false] rfl rfl (take_ofW HT_.out HW_.out (by kernel_rfl)) (fun _ _ _ h => h) (Or.inl ⟨by rfl, ?_⟩) hHeld ?_ ?_
          rotate_left
          · rintro w' ⟨s0, s1, s2, s3⟩
            go_simp
            with_reducible rfl
          rotate_left
          · skip
            simp only [Act.put, List.setIfInBounds_toArray, List.set_cons_zero, List.set_cons_succ, i64_w, i32_w]
            rfl
          refine pure_ (i := 5) (N := some 66) (v := ?_) (a' := ?_) #[true, true, true, true, true, true, false, false, false, false, false, false, false] rfl rfl (any_of HT_.out (by kernel_rfl)) (fun _ _ _ h => h) (Or.inl ⟨by rfl, ?_⟩) ?_ ?_
          rotate_left
          · intro w'
            go_simp
            with_reducible rfl
          rotate_left
          · skip
            simp only [Act.put, List.setIfInBounds_toArray, List.set_cons_zero, List.set_cons_succ, i64_w, i32_w]
            rfl
          refine pure_ (i := 6) (N := some 67) (v := ?_) (a' := ?_) #[true, true, true, true, true, true, true, false, false, false, false, false, false] rfl rfl (any_of HT_.out (by kernel_rfl)) (fun _ _ _ h => h) (Or.inl ⟨by rfl, ?_⟩) ?_ ?_
          rotate_left
          · intro w'
            go_simp
            with_reducible rfl
          rotate_left
          · skip
            simp only [Act.put, List.setIfInBounds_toArray, List.set_cons_zero, List.set_cons_succ, i64_w, i32_w]
            rfl
          refine pure_ (i := 7) (N := some 68) (v := ?_) (a' := ?_) #[true, true, true, true, true, true, true, true, false, false, false, false, false] rfl rfl (any_of HT_.out (by kernel_rfl)) (fun _ _ _ h => h) (Or.inl ⟨by rfl, ?_⟩) ?_ ?_
          rotate_left
          · intro w'
            go_simp
            with_reducible rfl
          rotate_left
          · skip
            simp only [Act.put, List.setIfInBounds_toArray, List.set_cons_zero, List.set_cons_succ, i64_w, i32_w]
            rfl
          refine take_ (i := 8) (N := some 69) (v := ?_) (a' := ?_) #[true, true, true, true, true, true, true, true, true, false, false, false, false] rfl rfl (take_ofW HT_.out HW_.out (by kernel_rfl)) (fun _ _ _ h => h) (Or.inl ⟨by rfl, ?_⟩) hHeld ?_ ?_
          rotate_left
          · rintro w' ⟨s0, s1, s2, s3⟩
            go_simp
            with_reducible rfl
          rotate_left
          · skip
            simp only [Act.put, List.setIfInBounds_toArray, List.set_cons_zero, List.set_cons_succ, i64_w, i32_w]
            rfl
          refine pure_ (i := 9) (N := some 70) (v := ?_) (a' := ?_) #[true, true, true, true, true, true, true, true, true, true, false, false, false] rfl rfl (any_of HT_.out (by kernel_rfl)) (fun _ _ _ h => h) (Or.inl ⟨by rfl, ?_⟩) ?_ ?_
          rotate_left
          · intro w'
            go_simp
            with_reducible rfl
          rotate_left
          · skip
            simp only [Act.put, List.setIfInBounds_toArray, List.set_cons_zero, List.set_cons_succ, i64_w, i32_w]
            rfl
          refine last_ (i := 10) (N := some 71) #[true, true, true, true, true, true, true, true, true, true, true, false, false] rfl rfl (one_of HT_.out (by kernel_rfl)) (by decide) (fun K hK => ?_)
          refine value_ (w1 := ?_) (v := ?_) (by rfl) rfl ?_ ?_
          rotate_left 2
          · go_simp
            constructor
            · rfl
            · rfl
          refine hK.out _ _ ?_
          clear hK K
          refine norm_ (a' := ?_) ?_ ?_
          rotate_left
          · show Act.put _ (some 71) _ = _
            simp only [Act.put, List.setIfInBounds_toArray, List.set_cons_zero, List.set_cons_succ, i64_w, i32_w]
            rfl
          refine last_ (i := 11) (N := some 72) #[true, true, true, true, true, true, true, true, true, true, true, true, false] rfl rfl (one_of HT_.out (by kernel_rfl)) (by decide) (fun K hK => ?_)
          refine Kd.R_append_step k37 (w0 := w) w.heap.size (by rfl) (.tmp 61) (.tmp 71) 26 37 (.agg #[(.string ⟨#[]⟩), (.int .i64 0), (.int .i64 0), (.int .i64 0)]) 40 rfl Try.underlying26 info37 rfl (by decide) (by omega) u9 ((es.take j).map (lineE own)) (⟨xn, ⟨xo, xs, xw⟩⟩ : S37) [.string xn, .int .i64 xo, .int .i64 xs, .int .i64 xw] (fun _ => True) (fun _ => False) rfl rfl ?aP (fun _ hk => hk.elim) ?aF ?aO ?aB ?aS ?aL ?_
          (case aP => exact k37_mkM _ _ _ (⟨xn, ⟨xo, xs, xw⟩⟩ : S37))
          (case aB => exact HKR.out.below)
          (case aF => exact (fun _ _ => trivial))
          (case aO => exact HKR.out.out)
          (case aS => exact HKR.out.below.size)
          (case aL => rw [lines_len own es j (Nat.le_of_lt hj2)]; omega)
          intro v9 w9 ho hb hg hat
          have HK9 : Aside0 (KeepT w w9 (.slice (some ad) ps.length c7) v9 es ps ((es.take j).map (lineE own) ++ [⟨xn, xo, xs, xw⟩]) (j + 1)) := ⟨HKR.out.app ho hb hg⟩
          clear ho hb hg hat
          refine hK.out _ _ ?_
          clear hK K
          refine norm_ (a' := ?_) ?_ ?_
          rotate_left
          · show Act.put _ (some 72) _ = _
            simp only [Act.put, List.setIfInBounds_toArray, List.set_cons_zero, List.set_cons_succ, i64_w, i32_w]
            rfl
          refine pure_ (i := 12) (N := some 9) (v := ?_) (a' := ?_) #[true, true, true, true, true, true, true, true, true, true, true, true, true] rfl rfl (any_of HT_.out (by kernel_rfl)) (fun _ _ _ h => h) (Or.inl ⟨by rfl, ?_⟩) ?_ ?_
          rotate_left
          · intro w'
            go_simp
            with_reducible rfl
          rotate_left
          · skip
            simp only [Act.put, List.setIfInBounds_toArray, List.set_cons_zero, List.set_cons_succ, i64_w, i32_w]
            rfl
          refine done_ (done_of HT_.out (by kernel_rfl)) ?_
          go_wp2
          have HDN : Aside0 (∀ i y, i < j + 1 → es[i]? = some y → okE own y = true) := ⟨fun i y hi hy => by
            rcases Nat.lt_succ_iff_lt_or_eq.1 hi with h | h
            · exact HD.out i y h hy
            · subst h; rw [HXJ.out] at hy; cases hy; exact HEX.out.1⟩
          have HKN : Aside0 (KeepT w w9 (.slice (some ad) ps.length c7) v9 es ps ((es.take (j + 1)).map (lineE own)) (j + 1)) := ⟨by rw [lines_succ own es j _ HXJ.out, HEX.out.2]; exact HK9.out⟩
          go_roundw
          case measure => simp [intOf]; omega
          case rel =>
            exact ⟨j + 1, by first | rfl | (simp; done) | (rw [hwk]; done), ⟨hj⟩, HDN, HKN⟩
        · by_cases hx0 : 0 ≤ ix
          · have HEX : Aside0 (okE own ⟨xn, xo, xs, xw, xr, xt, xwt⟩ = true ∧ lineE own ⟨xn, xo, xs, xw, xr, xt, xwt⟩ = ⟨xn, -1, 0, ix⟩) := ⟨by unfold okE lineE tgtE; simp only [HIX.out, if_neg hr, if_pos hx0, decide_eq_true hx0]; simp⟩
            have hfd : (wr.drewN nq).frozen? ⟨p, 1, none⟩ = false := blk_frozen (blk_drewN HBLK.out nq) 1
            go_upto_region 15 with fail
            have HBD : Aside0 (((((wr.drewN nq).setCell ⟨p, 1, none⟩ (.int .i64 (-1))).setCell ⟨p, 2, none⟩ (.int .i64 0)).setCell ⟨p, 3, none⟩ (.int .i64 ix)).heap[p]? = some (.cells #[.string xn, .int .i64 (-1), .int .i64 0, .int .i64 ix, .int .i64 xr, .bool xt, .bool xwt] 62 (0, 0))) := ⟨blk_put (blk_put (blk_put (blk_drewN HBLK.out nq) 1 _ rfl) 2 _ rfl) 3 _ rfl⟩
            have HKD : Aside0 (KeepT w ((((wr.drewN nq).setCell ⟨p, 1, none⟩ (.int .i64 (-1))).setCell ⟨p, 2, none⟩ (.int .i64 0)).setCell ⟨p, 3, none⟩ (.int .i64 ix)) (.slice (some ad) ps.length c7) u9 es ps ((es.take j).map (lineE own)) (j + 1)) := ⟨(HK.out.lower (pw_below_drewN (Below.refl _ _) nq)).set_ HBK.out.2.1 HXJ.out HPJ.out ((((KeepBut.refl _ _ _).set_ 1 _).set_ 2 _).set_ 3 _) (below_set (below_set (below_set (pw_below_drewN HK.out.below _) HPB.out) HPB.out) HPB.out)⟩
            clear hfd q0 q1 q2 q3 q4 q5 q6 hfz
            have HKR : Aside0 (KeepT w ((((((wr.drewN nq).setCell ⟨p, 1, none⟩ (.int .i64 (-1))).setCell ⟨p, 2, none⟩ (.int .i64 0)).setCell ⟨p, 3, none⟩ (.int .i64 ix))).drew) (.slice (some ad) ps.length c7) u9 es ps ((es.take j).map (lineE own)) (j + 1)) := ⟨HKD.out.lower (below_drew (Below.refl _ _))⟩
            refine start_ (n := 13) (S := fun w' => w'.cell? ⟨p, 0, none⟩ = some (.string xn) ∧ w'.cell? ⟨p, 1, none⟩ = some (.int .i64 (-1)) ∧ w'.cell? ⟨p, 2, none⟩ = some (.int .i64 0) ∧ w'.cell? ⟨p, 3, none⟩ = some (.int .i64 ix)) (ds := [10, 11]) #[false, false, false, false, false, false, false, false, false, false, false, false, false] (by kernel_rfl) rfl rfl ⟨blk_cell HBD.out 0, blk_cell HBD.out 1, blk_cell HBD.out 2, blk_cell HBD.out 3⟩ (fun hHeld => ?_)
            refine with_tabW tab9_15 bits9_15 (fun HT_ HW_ => ?_)
            generalize (((((wr.drewN nq).setCell ⟨p, 1, none⟩ (.int .i64 (-1))).setCell ⟨p, 2, none⟩ (.int .i64 0)).setCell ⟨p, 3, none⟩ (.int .i64 ix))).drew = wd at HKR hHeld ⊢
            refine pure_ (i := 0) (N := some 61) (v := ?_) (a' := ?_) #[true, false, false, false, false, false, false, false, false, false, false, false, false] rfl rfl (any_of HT_.out (by kernel_rfl)) (fun _ _ _ h => h) (Or.inl ⟨by rfl, ?_⟩) ?_ ?_
            rotate_left
            · intro w'
              go_simp
              with_reducible rfl
            rotate_left
            · skip
              simp only [Act.put, List.setIfInBounds_toArray, List.set_cons_zero, List.set_cons_succ, i64_w, i32_w]
              rfl
            refine pure_ (i := 1) (N := some 62) (v := ?_) (a' := ?_) #[true, true, false, false, false, false, false, false, false, false, false, false, false] rfl rfl (any_of HT_.out (by kernel_rfl)) (fun _ _ _ h => h) (Or.inl ⟨by rfl, ?_⟩) ?_ ?_
            rotate_left
            · intro w'
              go_simp
              with_reducible rfl
            rotate_left
            · skip
              simp only [Act.put, List.setIfInBounds_toArray, List.set_cons_zero, List.set_cons_succ, i64_w, i32_w]
              rfl
            refine pure_ (i := 2) (N := some 63) (v := ?_) (a' := ?_) #[true, true, true, false, false, false, false, false, false, false, false, false, false] rfl rfl (any_of HT_.out (by kernel_rfl)) (fun _ _ _ h => h) (Or.inl ⟨by rfl, ?_⟩) ?_ ?_
            rotate_left
            · intro w'
              go_simp
              with_reducible rfl
            rotate_left
            · skip
              simp only [Act.put, List.setIfInBounds_toArray, List.set_cons_zero, List.set_cons_succ, i64_w, i32_w]
              rfl
            refine pure_ (i := 3) (N := some 64) (v := ?_) (a' := ?_) #[true, true, true, true, false, false, false, false, false, false, false, false, false] rfl rfl (any_of HT_.out (by kernel_rfl)) (fun _ _ _ h => h) (Or.inl ⟨by rfl, ?_⟩) ?_ ?_
            rotate_left
            · intro w'
              go_simp
              with_reducible rfl
            rotate_left
            · skip
              simp only [Act.put, List.setIfInBounds_toArray, List.set_cons_zero, List.set_cons_succ, i64_w, i32_w]
              rfl
            refine take_ (i := 4) (N := some 65) (v := ?_) (a' := ?_) #[true, true, true, true, true, false, false, false, false, false, false, false, false] rfl rfl (take_ofW HT_.out HW_.out (by kernel_rfl)) (fun _ _ _ h => h) (Or.inl ⟨by rfl, ?_⟩) hHeld ?_ ?_
            rotate_left
            · rintro w' ⟨s0, s1, s2, s3⟩
              go_simp
              with_reducible rfl
            rotate_left
            · skip
              simp only [Act.put, List.setIfInBounds_toArray, List.set_cons_zero, List.set_cons_succ, i64_w, i32_w]
              rfl
            refine pure_ (i := 5) (N := some 66) (v := ?_) (a' := ?_) #[true, true, true, true, true, true, false, false, false, false, false, false, false] rfl rfl (any_of HT_.out (by kernel_rfl)) (fun _ _ _ h => h) (Or.inl ⟨by rfl, ?_⟩) ?_ ?_
            rotate_left
            · intro w'
              go_simp
              with_reducible rfl
            rotate_left
            · skip
              simp only [Act.put, List.setIfInBounds_toArray, List.set_cons_zero, List.set_cons_succ, i64_w, i32_w]
              rfl
            refine pure_ (i := 6) (N := some 67) (v := ?_) (a' := ?_) #[true, true, true, true, true, true, true, false, false, false, false, false, false] rfl rfl (any_of HT_.out (by kernel_rfl)) (fun _ _ _ h => h) (Or.inl ⟨by rfl, ?_⟩) ?_ ?_
            rotate_left
            · intro w'
              go_simp
              with_reducible rfl
            rotate_left
            · skip
              simp only [Act.put, List.setIfInBounds_toArray, List.set_cons_zero, List.set_cons_succ, i64_w, i32_w]
              rfl
            refine pure_ (i := 7) (N := some 68) (v := ?_) (a' := ?_) #[true, true, true, true, true, true, true, true, false, false, false, false, false] rfl rfl (any_of HT_.out (by kernel_rfl)) (fun _ _ _ h => h) (Or.inl ⟨by rfl, ?_⟩) ?_ ?_
            rotate_left
            · intro w'
              go_simp
              with_reducible rfl
            rotate_left
            · skip
              simp only [Act.put, List.setIfInBounds_toArray, List.set_cons_zero, List.set_cons_succ, i64_w, i32_w]
              rfl
            refine take_ (i := 8) (N := some 69) (v := ?_) (a' := ?_) #[true, true, true, true, true, true, true, true, true, false, false, false, false] rfl rfl (take_ofW HT_.out HW_.out (by kernel_rfl)) (fun _ _ _ h => h) (Or.inl ⟨by rfl, ?_⟩) hHeld ?_ ?_
            rotate_left
            · rintro w' ⟨s0, s1, s2, s3⟩
              go_simp
              with_reducible rfl
            rotate_left
            · skip
              simp only [Act.put, List.setIfInBounds_toArray, List.set_cons_zero, List.set_cons_succ, i64_w, i32_w]
              rfl
            refine pure_ (i := 9) (N := some 70) (v := ?_) (a' := ?_) #[true, true, true, true, true, true, true, true, true, true, false, false, false] rfl rfl (any_of HT_.out (by kernel_rfl)) (fun _ _ _ h => h) (Or.inl ⟨by rfl, ?_⟩) ?_ ?_
            rotate_left
            · intro w'
              go_simp
              with_reducible rfl
            rotate_left
            · skip
              simp only [Act.put, List.setIfInBounds_toArray, List.set_cons_zero, List.set_cons_succ, i64_w, i32_w]
              rfl
            refine last_ (i := 10) (N := some 71) #[true, true, true, true, true, true, true, true, true, true, true, false, false] rfl rfl (one_of HT_.out (by kernel_rfl)) (by decide) (fun K hK => ?_)
            refine value_ (w1 := ?_) (v := ?_) (by rfl) rfl ?_ ?_
            rotate_left 2
            · go_simp
              constructor
              · rfl
              · rfl
            refine hK.out _ _ ?_
            clear hK K
            refine norm_ (a' := ?_) ?_ ?_
            rotate_left
            · show Act.put _ (some 71) _ = _
              simp only [Act.put, List.setIfInBounds_toArray, List.set_cons_zero, List.set_cons_succ, i64_w, i32_w]
              rfl
            refine last_ (i := 11) (N := some 72) #[true, true, true, true, true, true, true, true, true, true, true, true, false] rfl rfl (one_of HT_.out (by kernel_rfl)) (by decide) (fun K hK => ?_)
            refine Kd.R_append_step k37 (w0 := w) w.heap.size (by rfl) (.tmp 61) (.tmp 71) 26 37 (.agg #[(.string ⟨#[]⟩), (.int .i64 0), (.int .i64 0), (.int .i64 0)]) 40 rfl Try.underlying26 info37 rfl (by decide) (by omega) u9 ((es.take j).map (lineE own)) (⟨xn, ⟨(-1), 0, ix⟩⟩ : S37) [.string xn, .int .i64 (-1), .int .i64 0, .int .i64 ix] (fun _ => True) (fun _ => False) rfl rfl ?aP2 (fun _ hk => hk.elim) ?aF2 ?aO2 ?aB2 ?aS2 ?aL2 ?_
            (case aP2 => exact k37_mkM _ _ _ (⟨xn, ⟨(-1), 0, ix⟩⟩ : S37))
            (case aB2 => exact HKR.out.below)
            (case aF2 => exact (fun _ _ => trivial))
            (case aO2 => exact HKR.out.out)
            (case aS2 => exact HKR.out.below.size)
            (case aL2 => rw [lines_len own es j (Nat.le_of_lt hj2)]; omega)
            intro v9 w9 ho hb hg hat
            have HK9 : Aside0 (KeepT w w9 (.slice (some ad) ps.length c7) v9 es ps ((es.take j).map (lineE own) ++ [⟨xn, (-1), 0, ix⟩]) (j + 1)) := ⟨HKR.out.app ho hb hg⟩
            clear ho hb hg hat
            refine hK.out _ _ ?_
            clear hK K
            refine norm_ (a' := ?_) ?_ ?_
            rotate_left
            · show Act.put _ (some 72) _ = _
              simp only [Act.put, List.setIfInBounds_toArray, List.set_cons_zero, List.set_cons_succ, i64_w, i32_w]
              rfl
            refine pure_ (i := 12) (N := some 9) (v := ?_) (a' := ?_) #[true, true, true, true, true, true, true, true, true, true, true, true, true] rfl rfl (any_of HT_.out (by kernel_rfl)) (fun _ _ _ h => h) (Or.inl ⟨by rfl, ?_⟩) ?_ ?_
            rotate_left
            · intro w'
              go_simp
              with_reducible rfl
            rotate_left
            · skip
              simp only [Act.put, List.setIfInBounds_toArray, List.set_cons_zero, List.set_cons_succ, i64_w, i32_w]
              rfl
            refine done_ (done_of HT_.out (by kernel_rfl)) ?_
            go_wp2
            have HDN : Aside0 (∀ i y, i < j + 1 → es[i]? = some y → okE own y = true) := ⟨fun i y hi hy => by
              rcases Nat.lt_succ_iff_lt_or_eq.1 hi with h | h
              · exact HD.out i y h hy
              · subst h; rw [HXJ.out] at hy; cases hy; exact HEX.out.1⟩
            have HKN : Aside0 (KeepT w w9 (.slice (some ad) ps.length c7) v9 es ps ((es.take (j + 1)).map (lineE own)) (j + 1)) := ⟨by rw [lines_succ own es j _ HXJ.out, HEX.out.2]; exact HK9.out⟩
            go_roundw
            case measure => simp [intOf]; omega
            case rel =>
              exact ⟨j + 1, by first | rfl | (simp; done) | (rw [hwk]; done), ⟨hj⟩, HDN, HKN⟩
          · cases xwt with
            | true =>
              have HER : Aside0 (ts = ([], xn, 6)) := ⟨by
                rw [← HTS.out]; unfold tableS
                rw [HTW.out, find_at (fun e => !okE own e) es j _ HXJ.out (fun i y hi hy => by simp [HD.out i y hi hy]) (by unfold okE; simp only [HIX.out]; simp [hr, hx0])]⟩
              have q0d : (wr.drewN nq).cell? ⟨p, 0, none⟩ = some (.string xn) := blk_cell (blk_drewN HBLK.out nq) 0
              go_wp2
              go_quiet (fail)
              go_wp2
              refine bodyPost_ret (v := .tuple #[.slice none 0 0, .string xn, .int .i64 6]) (by simp [results, Try.results9, go_sem]) rfl ?_
              rw [HER.out]
              exact ⟨_, rfl, Kd.R_nil _ _ _ _ _, by repeat (first | exact HK.out.below | refine pw_below_drewN ?_ _)⟩
            | false =>
              have HEX : Aside0 (okE own ⟨xn, xo, xs, xw, xr, xt, false⟩ = true ∧ lineE own ⟨xn, xo, xs, xw, xr, xt, false⟩ = ⟨xn, xo, xs, xw⟩) := ⟨by unfold okE lineE tgtE; simp only [HIX.out, if_neg hr, if_neg hx0]; simp⟩
              have HKD : Aside0 (KeepT w (wr.drewN nq) (.slice (some ad) ps.length c7) u9 es ps ((es.take j).map (lineE own)) (j + 1)) := ⟨(HK.out.lower (pw_below_drewN (Below.refl _ _) _)).next⟩
              have HBD := Aside0.mk (blk_drewN HBLK.out nq)
              go_upto_region 15 with fail
              have HKR : Aside0 (KeepT w ((wr.drewN nq).drew) (.slice (some ad) ps.length c7) u9 es ps ((es.take j).map (lineE own)) (j + 1)) := ⟨HKD.out.lower (below_drew (Below.refl _ _))⟩
              refine start_ (n := 13) (S := fun w' => w'.cell? ⟨p, 0, none⟩ = some (.string xn) ∧ w'.cell? ⟨p, 1, none⟩ = some (.int .i64 xo) ∧ w'.cell? ⟨p, 2, none⟩ = some (.int .i64 xs) ∧ w'.cell? ⟨p, 3, none⟩ = some (.int .i64 xw)) (ds := [10, 11]) #[false, false, false, false, false, false, false, false, false, false, false, false, false] (by kernel_rfl) rfl rfl ⟨blk_cell HBD.out 0, blk_cell HBD.out 1, blk_cell HBD.out 2, blk_cell HBD.out 3⟩ (fun hHeld => ?_)
              refine with_tabW tab9_15 bits9_15 (fun HT_ HW_ => ?_)
              generalize (wr.drewN nq).drew = wd at HKR hHeld ⊢
              refine pure_ (i := 0) (N := some 61) (v := ?_) (a' := ?_) #[true, false, false, false, false, false, false, false, false, false, false, false, false] rfl rfl (any_of HT_.out (by kernel_rfl)) (fun _ _ _ h => h) (Or.inl ⟨by rfl, ?_⟩) ?_ ?_
              rotate_left
              · intro w'
                go_simp
                with_reducible rfl
              rotate_left
              · skip
                simp only [Act.put, List.setIfInBounds_toArray, List.set_cons_zero, List.set_cons_succ, i64_w, i32_w]
                rfl
              refine pure_ (i := 1) (N := some 62) (v := ?_) (a' := ?_) #[true, true, false, false, false, false, false, false, false, false, false, false, false] rfl rfl (any_of HT_.out (by kernel_rfl)) (fun _ _ _ h => h) (Or.inl ⟨by rfl, ?_⟩) ?_ ?_
              rotate_left
              · intro w'
                go_simp
                with_reducible rfl
              rotate_left
              · skip
                simp only [Act.put, List.setIfInBounds_toArray, List.set_cons_zero, List.set_cons_succ, i64_w, i32_w]
                rfl
              refine pure_ (i := 2) (N := some 63) (v := ?_) (a' := ?_) #[true, true, true, false, false, false, false, false, false, false, false, false, false] rfl rfl (any_of HT_.out (by kernel_rfl)) (fun _ _ _ h => h) (Or.inl ⟨by rfl, ?_⟩) ?_ ?_
              rotate_left
              · intro w'
                go_simp
                with_reducible rfl
              rotate_left
              · skip
                simp only [Act.put, List.setIfInBounds_toArray, List.set_cons_zero, List.set_cons_succ, i64_w, i32_w]
                rfl
              refine pure_ (i := 3) (N := some 64) (v := ?_) (a' := ?_) #[true, true, true, true, false, false, false, false, false, false, false, false, false] rfl rfl (any_of HT_.out (by kernel_rfl)) (fun _ _ _ h => h) (Or.inl ⟨by rfl, ?_⟩) ?_ ?_
              rotate_left
              · intro w'
                go_simp
                with_reducible rfl
              rotate_left
              · skip
                simp only [Act.put, List.setIfInBounds_toArray, List.set_cons_zero, List.set_cons_succ, i64_w, i32_w]
                rfl
              refine take_ (i := 4) (N := some 65) (v := ?_) (a' := ?_) #[true, true, true, true, true, false, false, false, false, false, false, false, false] rfl rfl (take_ofW HT_.out HW_.out (by kernel_rfl)) (fun _ _ _ h => h) (Or.inl ⟨by rfl, ?_⟩) hHeld ?_ ?_
              rotate_left
              · rintro w' ⟨s0, s1, s2, s3⟩
                go_simp
                with_reducible rfl
              rotate_left
              · skip
                simp only [Act.put, List.setIfInBounds_toArray, List.set_cons_zero, List.set_cons_succ, i64_w, i32_w]
                rfl
              refine pure_ (i := 5) (N := some 66) (v := ?_) (a' := ?_) #[true, true, true, true, true, true, false, false, false, false, false, false, false] rfl rfl (any_of HT_.out (by kernel_rfl)) (fun _ _ _ h => h) (Or.inl ⟨by rfl, ?_⟩) ?_ ?_
              rotate_left
              · intro w'
                go_simp
                with_reducible rfl
              rotate_left
              · skip
                simp only [Act.put, List.setIfInBounds_toArray, List.set_cons_zero, List.set_cons_succ, i64_w, i32_w]
                rfl
              refine pure_ (i := 6) (N := some 67) (v := ?_) (a' := ?_) #[true, true, true, true, true, true, true, false, false, false, false, false, false] rfl rfl (any_of HT_.out (by kernel_rfl)) (fun _ _ _ h => h) (Or.inl ⟨by rfl, ?_⟩) ?_ ?_
              rotate_left
              · intro w'
                go_simp
                with_reducible rfl
              rotate_left
              · skip
                simp only [Act.put, List.setIfInBounds_toArray, List.set_cons_zero, List.set_cons_succ, i64_w, i32_w]
                rfl
              refine pure_ (i := 7) (N := some 68) (v := ?_) (a' := ?_) #[true, true, true, true, true, true, true, true, false, false, false, false, false] rfl rfl (any_of HT_.out (by kernel_rfl)) (fun _ _ _ h => h) (Or.inl ⟨by rfl, ?_⟩) ?_ ?_
              rotate_left
              · intro w'
                go_simp
                with_reducible rfl
              rotate_left
              · skip
                simp only [Act.put, List.setIfInBounds_toArray, List.set_cons_zero, List.set_cons_succ, i64_w, i32_w]
                rfl
              refine take_ (i := 8) (N := some 69) (v := ?_) (a' := ?_) #[true, true, true, true, true, true, true, true, true, false, false, false, false] rfl rfl (take_ofW HT_.out HW_.out (by kernel_rfl)) (fun _ _ _ h => h) (Or.inl ⟨by rfl, ?_⟩) hHeld ?_ ?_
              rotate_left
              · rintro w' ⟨s0, s1, s2, s3⟩
                go_simp
                with_reducible rfl
              rotate_left
              · skip
                simp only [Act.put, List.setIfInBounds_toArray, List.set_cons_zero, List.set_cons_succ, i64_w, i32_w]
                rfl
              refine pure_ (i := 9) (N := some 70) (v := ?_) (a' := ?_) #[true, true, true, true, true, true, true, true, true, true, false, false, false] rfl rfl (any_of HT_.out (by kernel_rfl)) (fun _ _ _ h => h) (Or.inl ⟨by rfl, ?_⟩) ?_ ?_
              rotate_left
              · intro w'
                go_simp
                with_reducible rfl
              rotate_left
              · skip
                simp only [Act.put, List.setIfInBounds_toArray, List.set_cons_zero, List.set_cons_succ, i64_w, i32_w]
                rfl
              refine last_ (i := 10) (N := some 71) #[true, true, true, true, true, true, true, true, true, true, true, false, false] rfl rfl (one_of HT_.out (by kernel_rfl)) (by decide) (fun K hK => ?_)
              refine value_ (w1 := ?_) (v := ?_) (by rfl) rfl ?_ ?_
              rotate_left 2
              · go_simp
                constructor
                · rfl
                · rfl
              refine hK.out _ _ ?_
              clear hK K
              refine norm_ (a' := ?_) ?_ ?_
              rotate_left
              · show Act.put _ (some 71) _ = _
                simp only [Act.put, List.setIfInBounds_toArray, List.set_cons_zero, List.set_cons_succ, i64_w, i32_w]
                rfl
              refine last_ (i := 11) (N := some 72) #[true, true, true, true, true, true, true, true, true, true, true, true, false] rfl rfl (one_of HT_.out (by kernel_rfl)) (by decide) (fun K hK => ?_)
              refine Kd.R_append_step k37 (w0 := w) w.heap.size (by rfl) (.tmp 61) (.tmp 71) 26 37 (.agg #[(.string ⟨#[]⟩), (.int .i64 0), (.int .i64 0), (.int .i64 0)]) 40 rfl Try.underlying26 info37 rfl (by decide) (by omega) u9 ((es.take j).map (lineE own)) (⟨xn, ⟨xo, xs, xw⟩⟩ : S37) [.string xn, .int .i64 xo, .int .i64 xs, .int .i64 xw] (fun _ => True) (fun _ => False) rfl rfl ?aP3 (fun _ hk => hk.elim) ?aF3 ?aO3 ?aB3 ?aS3 ?aL3 ?_
              (case aP3 => exact k37_mkM _ _ _ (⟨xn, ⟨xo, xs, xw⟩⟩ : S37))
              (case aB3 => exact HKR.out.below)
              (case aF3 => exact (fun _ _ => trivial))
              (case aO3 => exact HKR.out.out)
              (case aS3 => exact HKR.out.below.size)
              (case aL3 => rw [lines_len own es j (Nat.le_of_lt hj2)]; omega)
              intro v9 w9 ho hb hg hat
              have HK9 : Aside0 (KeepT w w9 (.slice (some ad) ps.length c7) v9 es ps ((es.take j).map (lineE own) ++ [⟨xn, xo, xs, xw⟩]) (j + 1)) := ⟨HKR.out.app ho hb hg⟩
              clear ho hb hg hat
              refine hK.out _ _ ?_
              clear hK K
              refine norm_ (a' := ?_) ?_ ?_
              rotate_left
              · show Act.put _ (some 72) _ = _
                simp only [Act.put, List.setIfInBounds_toArray, List.set_cons_zero, List.set_cons_succ, i64_w, i32_w]
                rfl
              refine pure_ (i := 12) (N := some 9) (v := ?_) (a' := ?_) #[true, true, true, true, true, true, true, true, true, true, true, true, true] rfl rfl (any_of HT_.out (by kernel_rfl)) (fun _ _ _ h => h) (Or.inl ⟨by rfl, ?_⟩) ?_ ?_
              rotate_left
              · intro w'
                go_simp
                with_reducible rfl
              rotate_left
              · skip
                simp only [Act.put, List.setIfInBounds_toArray, List.set_cons_zero, List.set_cons_succ, i64_w, i32_w]
                rfl
              refine done_ (done_of HT_.out (by kernel_rfl)) ?_
              go_wp2
              have HDN : Aside0 (∀ i y, i < j + 1 → es[i]? = some y → okE own y = true) := ⟨fun i y hi hy => by
                rcases Nat.lt_succ_iff_lt_or_eq.1 hi with h | h
                · exact HD.out i y h hy
                · subst h; rw [HXJ.out] at hy; cases hy; exact HEX.out.1⟩
              have HKN : Aside0 (KeepT w w9 (.slice (some ad) ps.length c7) v9 es ps ((es.take (j + 1)).map (lineE own)) (j + 1)) := ⟨by rw [lines_succ own es j _ HXJ.out, HEX.out.2]; exact HK9.out⟩
              go_roundw
              case measure => simp [intOf]; omega
              case rel =>
                exact ⟨j + 1, by first | rfl | (simp; done) | (rw [hwk]; done), ⟨hj⟩, HDN, HKN⟩
      · have hjn : j = ps.length := by have := HJ.out; omega
        have hjI : ¬ (j : Int) < (ps.length : Int) := by omega
        have HE : Aside0 (ts = (es.map (lineE own), ⟨#[]⟩, 0)) := ⟨by
          rw [← HTS.out]; unfold tableS
          rw [HTW.out, find_none (fun e => !okE own e) es (fun x hx => by
            obtain ⟨i, hi⟩ := List.getElem?_of_mem hx
            have : i < es.length := (List.getElem?_eq_some_iff.1 hi).1
            simp [HD.out i x (by rw [hjn, HL.out]; exact this) hi])]⟩
        go_wp2
        refine bodyPost_ret (v := .tuple #[u9, .string ⟨#[]⟩, .int .i64 0]) (by simp [results, Try.results9, go_sem]) rfl ?_
        rw [HE.out]
        refine ⟨_, rfl, ?_, HK.out.below⟩
        have := HK.out.out
        rw [List.take_of_length_le (by rw [hjn, HL.out]; exact Nat.le_refl _)] at this
        exact this
end Go.Proofs.Ytchkjfokoenlnaa.Sym
