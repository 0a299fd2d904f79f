/- syms.Of by contract: ofS; the reference's Of is the same. -/
import Derived.Test.YtchkjfokoenlnaaQSyI
import Derived.Test.YtchkjfokoenlnaaQSyG1
import Derived.Test.YtchkjfokoenlnaaQSyx7
import Derived.Test.YtchkjfokoenlnaaQSyx1
import Derived.Deep.QuietTactic
import Derived.BigQuiet
import Derived.Outline
namespace Go.Proofs.Ytchkjfokoenlnaa.Sym
open Go.RowKit Go.Maps Go.WideMaps Go.Proofs.YtchkjfokoenlnaaW.PrintWords Go.Proofs.YtchkjfokoenlnaaW.PrintLast Go.Proofs.Ytchkjfokoenlnaa.QSy
set_option linter.unusedVariables false
set_option linter.unusedSimpArgs false
def symAt (ls : List S44) (o k : Int) : S47 := (ls.getD o.toNat z44).f1.f1.getD k.toNat z47
def inO (ls : List S44) (o k : Int) : Prop := 0 ≤ o ∧ o < ls.length ∧ 0 ≤ k ∧ k < ((ls.getD o.toNat z44).f1.f1).length
instance (ls : List S44) (o k : Int) : Decidable (inO ls o k) := by unfold inO; infer_instance
/-- What a symbol of an object is. -/
def ofS (t : List S37) (ls : List S44) (o k : Int) : S32 × Bool :=
  if inO ls o k then
    (if (symAt ls o k).f3 = 0 then (⟨o, k, -1⟩, true)
     else match t.find? (fun b => decide (b.f0 = (symAt ls o k).f0)) with
       | none => (⟨0, 0, 0⟩, false)
       | some b => (b.f1, true))
  else (⟨0, 0, 0⟩, false)
theorem find_place {α : Type} (p : α → Bool) (l : List α) (j : Nat) (x : α) (h : placeI p l 0 = (j : Int)) (hx : l[j]? = some x) : l.find? p = some x := by
  have key : ∀ (l : List α) (i : Nat), placeI p l i = -1 ∨ ∃ (q : Nat) (y : α), placeI p l i = ((i + q : Nat) : Int) ∧ l[q]? = some y ∧ l.find? p = some y := by
    intro l
    induction l with
    | nil => intro i; exact .inl rfl
    | cons z r ih =>
      intro i
      simp only [placeI]
      by_cases hz : p z = true
      · rw [if_pos hz]
        exact .inr ⟨0, z, rfl, rfl, by simp [hz]⟩
      · rw [if_neg hz]
        rcases ih (i + 1) with h | ⟨q, y, h1, h2, h3⟩
        · exact .inl h
        · exact .inr ⟨q + 1, y, by rw [h1]; congr 1; omega, by simpa using h2, by simp [hz, h3]⟩
  rcases key l 0 with h1 | ⟨q, y, h1, h2, h3⟩
  · rw [h] at h1; omega
  · have : q = j := by rw [h] at h1; omega
    subst this
    rw [hx] at h2
    rw [h3, ← h2]
theorem find_place_none {α : Type} (p : α → Bool) (l : List α) (h : placeI p l 0 < 0) : l.find? p = none := by
  cases hf : l.find? p with
  | none => rfl
  | some x =>
    obtain ⟨h1, j, hj, h2, h3⟩ := List.find?_eq_some_iff_getElem.1 hf
    have := placeI_at p l j x (by rw [List.getElem?_eq_getElem hj, h2]) (fun i y hi hy => by
      have := h3 i hi
      rw [List.getElem?_eq_getElem (by omega)] at hy
      cases hy
      simpa using this)
    rw [this, if_pos h1] at h
    omega
/-- The closure: is it the symbol's name? -/
theorem same_calls (n : ByteArray) (b : S37) (q : Nat) (w : World) (hq : w.cell? ⟨q, 0, none⟩ = some (.string n)) : Calls Try.prog 27 #[.agg #[.string b.f0, .int .i64 b.f1.f0, .int .i64 b.f1.f1, .int .i64 b.f1.f2], .pointer (some ⟨q, 0, none⟩)] w fun e w' => e = .returned (.bool (decide (b.f0 = n))) ∧ Below w.heap.size w w' := by
  have hlt := World.block_lt_of_cell? w _ hq
  have hb := beq_names b.f0 n
  obtain ⟨r, hr⟩ : ∃ r, decide (b.f0 = n) = r := ⟨_, rfl⟩
  rw [hr] at hb ⊢
  clear hr
  go_enter Try.func27, Try.ntmps27
  go_wp2
  go_ret
  exact ⟨rfl, below_alloc (Below.refl _ _) _⟩
set_option maxRecDepth 100000 in
set_option maxHeartbeats 4000000 in
theorem idxBound_calls (A : Option Addr) (c : Nat) (t : List S37) (hc : t.length ≤ c) (n : ByteArray) (q : Nat) (w : World) (hr : Kd.C k37 w A t.length t) (hq : w.cell? ⟨q, 0, none⟩ = some (.string n)) :
    Calls Try.prog 26 #[.slice A t.length c, .func (.func 27) #[] #[.pointer (some ⟨q, 0, none⟩)]] w fun e w' => e = .returned (.int .i64 (placeI (fun b : S37 => decide (b.f0 = n)) t 0)) ∧ Below w.heap.size w w' := by
  have HR := Aside0.mk hr
  have HQ := Aside0.mk hq
  have hlen : t.length ≤ 9223372036854775807 := hr.2.1
  clear hr hq
  go_enter Try.func26, Try.ntmps26
  go_wp2
  go_loopw [8] (fun v8 wr => ∃ j : Nat, v8 = .int .i64 j ∧ Aside0 (j ≤ t.length) ∧ Aside0 (∀ i y, i < j → t[i]? = some y → decide (y.f0 = n) = false) ∧ Aside0 (Below w.heap.size w wr)) (fun v8 _ => t.length - (intOf v8).toNat)
  case atStart => exact ⟨0, rfl, ⟨Nat.zero_le _⟩, ⟨fun i y hi => absurd hi (Nat.not_lt_zero _)⟩, ⟨Below.refl _ _⟩⟩
  case round =>
    obtain ⟨j, rfl, HJ, HD, HB⟩ := hrel
    by_cases hj : j < t.length
    · have hjI : (j : Int) < (t.length : Int) := by omega
      obtain ⟨ad, rfl, f0, f1, f2, f3⟩ := at_T37 (Kd.C_below HR.out HB.out) (j : Int) (by omega) hjI
      obtain ⟨b, hb⟩ : ∃ b, rd_T37 t (j : Int) = b := ⟨_, rfl⟩
      rw [hb] at f0 f1 f2 f3
      rw [Int.toNat_natCast] at f0 f1 f2 f3
      have hbj : t[j]? = some b := by
        unfold rd_T37 at hb
        rw [Int.toNat_natCast, List.getD_eq_getElem?_getD, List.getElem?_eq_getElem hj] at hb
        rw [List.getElem?_eq_getElem hj]; exact congrArg some hb
      have HBJ := Aside0.mk hbj
      have SC := Aside0.mk (same_calls n b q wr (pw_cell_below HB.out HQ.out))
      obtain ⟨r, hr⟩ : ∃ r, decide (b.f0 = n) = r := ⟨_, rfl⟩
      rw [hr] at SC
      have HRR := Aside0.mk hr
      have hwk : wrap64 ((j : Int) + 1) = ((j + 1 : Nat) : Int) := by unfold wrap64; omega
      clear hb hbj hr
      go_wp2_with fail
      refine SC.out.mono ?_
      intro e w1 h1
      obtain ⟨h1, hb1⟩ := h1
      subst h1
      have HB1 : Aside0 (Below w.heap.size w w1) := ⟨HB.out.trans (hb1.mono HB.out.size)⟩
      clear hb1
      cases r with
      | true =>
        go_wp2
        go_ret
        exact ⟨by rw [placeI_at _ t j b HBJ.out HD.out, HRR.out]; rfl, HB1.out⟩
      | false =>
        go_wp2
        refine ⟨⟨j + 1, by first | rfl | (simp; done) | (rw [hwk]; done), ⟨hj⟩, ⟨fun i y hi hy => ?_⟩, HB1⟩, by simp only [intOf]; omega⟩
        rcases Nat.lt_succ_iff_lt_or_eq.1 hi with h | h
        · exact HD.out i y h hy
        · subst h; rw [HBJ.out] at hy; cases hy; exact HRR.out
    · have hjn : j = t.length := by have := HJ.out; omega
      have hjI : ¬ (j : Int) < (t.length : Int) := by omega
      go_wp2
      go_ret
      refine ⟨?_, HB.out⟩
      rw [placeI_none _ t 0 (fun x hx => by
        obtain ⟨i, hi⟩ := List.getElem?_of_mem hx
        exact HD.out i x (by have := (List.getElem?_eq_some_iff.1 hi).1; omega) hi)]
      rfl
theorem cell_alloc {w : World} {a : Addr} {v : Value} (h : w.cell? a = some v) (ob : Obj) : (w.alloc ob).cell? a = some v := pw_cell_below (below_alloc (Below.refl _ _) ob) h
def tgtV (t : S32) : Value := .agg #[.int .i64 t.f0, .int .i64 t.f1, .int .i64 t.f2]
attribute [local go_sem high] eqA32 eqA37
set_option maxRecDepth 100000 in
set_option maxHeartbeats 16000000 in
theorem of_calls (A : Option Addr) (c : Nat) (t : List S37) (hc : t.length ≤ c) (A1 : Option Addr) (c1 : Nat) (ls : List S44) (hc1 : ls.length ≤ c1) (o k : Int) (w : World) (hr : Kd.C k37 w A t.length t) (hr1 : Kd.C k44 w A1 ls.length ls) :
    Calls Try.prog 12 #[.slice A t.length c, .slice A1 ls.length c1, .int .i64 o, .int .i64 k] w fun e w' => e = .returned (.tuple #[.agg #[.int .i64 (ofS t ls o k).1.f0, .int .i64 (ofS t ls o k).1.f1, .int .i64 (ofS t ls o k).1.f2], .bool (ofS t ls o k).2]) ∧ Below w.heap.size w w' := by
  have HR := Aside0.mk hr
  have HR1 := Aside0.mk hr1
  have HC := Aside0.mk hc
  have hlen : t.length ≤ 9223372036854775807 := hr.2.1
  have hlen1 : ls.length ≤ 9223372036854775807 := hr1.2.1
  obtain ⟨rs, hrs⟩ : ∃ rs, ofS t ls o k = rs := ⟨_, rfl⟩
  rw [hrs]
  have HRS := Aside0.mk hrs
  clear hr hr1 hrs hc
  have hout : ¬ inO ls o k → rs = (⟨0, 0, 0⟩, false) := fun h => by rw [← HRS.out]; unfold ofS; rw [if_neg h]
  have HOUT := Aside0.mk hout
  clear hout
  by_cases h1 : o < 0
  · have HX : Aside0 (rs = (⟨0, 0, 0⟩, false)) := ⟨HOUT.out (fun h => by have := h.1; omega)⟩
    go_enter Try.func12, Try.ntmps12
    go_wp2
    rw [HX.out]
    refine bodyPost_ret (v := .tuple #[.agg #[.int .i64 0, .int .i64 0, .int .i64 0], .bool false]) (by simp [results, Try.results12, go_sem]) rfl ⟨rfl, ?_⟩
    exact below_alloc (Below.refl _ _) _
  · by_cases h2 : (ls.length : Int) ≤ o
    · have HX : Aside0 (rs = (⟨0, 0, 0⟩, false)) := ⟨HOUT.out (fun h => by have := h.2.1; omega)⟩
      go_enter Try.func12, Try.ntmps12
      go_wp2
      rw [HX.out]
      refine bodyPost_ret (v := .tuple #[.agg #[.int .i64 0, .int .i64 0, .int .i64 0], .bool false]) (by simp [results, Try.results12, go_sem]) rfl ⟨rfl, ?_⟩
      exact below_alloc (Below.refl _ _) _
    · by_cases h3 : k < 0
      · have HX : Aside0 (rs = (⟨0, 0, 0⟩, false)) := ⟨HOUT.out (fun h => by have := h.2.2.1; omega)⟩
        go_enter Try.func12, Try.ntmps12
        go_wp2
        rw [HX.out]
        refine bodyPost_ret (v := .tuple #[.agg #[.int .i64 0, .int .i64 0, .int .i64 0], .bool false]) (by simp [results, Try.results12, go_sem]) rfl ⟨rfl, ?_⟩
        exact below_alloc (Below.refl _ _) _
      · have hoI : o < (ls.length : Int) := by omega
        have ho0 : 0 ≤ o := by omega
        obtain ⟨ad, A3, c3, A2, c2, A4, c4, rfl, f0, f1, f2, f3, _, _, l2, C2, _, _⟩ := at_T44 HR1.out o ho0 hoI
        obtain ⟨x, hx⟩ : ∃ x, rd_T44 ls o = x := ⟨_, rfl⟩
        rw [hx] at f0 f1 f2 f3 l2 C2
        have f2' : ∀ ob, (w.alloc ob).cell? ⟨(ad.add (o.toNat * 4)).block, (ad.add (o.toNat * 4)).off + 1 + 1, none⟩ = some (.slice A2 x.f1.f1.length c2) := fun ob => cell_alloc f2 ob
        clear f0 f1 f2 f3
        have HXO : Aside0 (ls.getD o.toNat z44 = x) := ⟨hx⟩
        have HC2 := Aside0.mk C2
        have hlen2 : x.f1.f1.length ≤ 9223372036854775807 := C2.2.1
        clear hx C2 l2
        by_cases h4 : (x.f1.f1.length : Int) ≤ k
        · have HX : Aside0 (rs = (⟨0, 0, 0⟩, false)) := ⟨HOUT.out (fun h => by have := h.2.2.2; rw [HXO.out] at this; omega)⟩
          go_enter Try.func12, Try.ntmps12
          go_wp2
          rw [HX.out]
          refine bodyPost_ret (v := .tuple #[.agg #[.int .i64 0, .int .i64 0, .int .i64 0], .bool false]) (by simp [results, Try.results12, go_sem]) rfl ⟨rfl, ?_⟩
          exact below_alloc (Below.refl _ _) _
        · have hkI : k < (x.f1.f1.length : Int) := by omega
          have hk0 : 0 ≤ k := by omega
          obtain ⟨ad2, rfl, g0, g1, g2, g3, g4, g5, g6⟩ := at_T47 HC2.out k hk0 hkI
          obtain ⟨y, hy⟩ : ∃ y, rd_T47 x.f1.f1 k = y := ⟨_, rfl⟩
          rw [hy] at g0 g1 g2 g3 g4 g5 g6
          replace g0 := cell_alloc g0
          replace g1 := cell_alloc g1
          replace g2 := cell_alloc g2
          replace g3 := cell_alloc g3
          replace g4 := cell_alloc g4
          replace g5 := cell_alloc g5
          replace g6 := cell_alloc g6
          have HIN : Aside0 (inO ls o k ∧ symAt ls o k = y) := ⟨⟨ho0, hoI, hk0, by rw [HXO.out]; exact hkI⟩, by unfold symAt; rw [HXO.out]; exact hy⟩
          clear hy
          by_cases h5 : y.f3 = 0
          · have h5b : (y.f3 == 0) = true := by simpa using h5
            have HX : Aside0 (rs = (⟨o, k, -1⟩, true)) := ⟨by rw [← HRS.out]; unfold ofS; rw [if_pos HIN.out.1, HIN.out.2, if_pos h5]⟩
            clear h5
            go_enter Try.func12, Try.ntmps12
            go_wp2
            rw [HX.out]
            refine bodyPost_ret (v := .tuple #[.agg #[.int .i64 o, .int .i64 k, .int .i64 (-1)], .bool true]) (by simp [results, Try.results12, go_sem]) rfl ⟨rfl, ?_⟩
            repeat (first | exact Below.refl _ _ | apply below_alloc)
          · have h5b : (y.f3 == 0) = false := by simpa using h5
            have HX : Aside0 (rs = match t.find? (fun b => decide (b.f0 = y.f0)) with
              | none => (⟨0, 0, 0⟩, false)
              | some b => (b.f1, true)) := ⟨by rw [← HRS.out]; unfold ofS; rw [if_pos HIN.out.1, HIN.out.2, if_neg h5]⟩
            clear h5
            go_enter Try.func12, Try.ntmps12
            go_wp2_with fail
            generalize hW : ((w.alloc (Obj.cells #[Value.int IntKind.i64 0, Value.int IntKind.i64 0, Value.int IntKind.i64 0] 32)).alloc (Obj.cells #[Value.string y.f0, Value.int IntKind.u32 y.f1, Value.int IntKind.u32 y.f2, Value.int IntKind.u8 y.f3, Value.int IntKind.u8 y.f4, Value.bool y.f5, Value.int IntKind.i64 y.f6] 47)).alloc (Obj.cells #[Value.int IntKind.i64 o, Value.int IntKind.i64 k, Value.int IntKind.i64 (-1)] 32) = W
            have HB : Aside0 (Below w.heap.size w W) := ⟨by rw [← hW]; repeat (first | exact Below.refl _ _ | apply below_alloc)⟩
            have b8 : W.heap[w.heap.size]? = some (Obj.cells #[Value.int IntKind.i64 0, Value.int IntKind.i64 0, Value.int IntKind.i64 0] 32 (0, 0)) := by
              rw [← hW]; exact old_at (old_at (new_at _ _) (below_alloc (Below.refl _ _) _)) (below_alloc (Below.refl _ _) _)
            have b10 : W.heap[w.heap.size + 1]? = some (Obj.cells #[Value.string y.f0, Value.int IntKind.u32 y.f1, Value.int IntKind.u32 y.f2, Value.int IntKind.u8 y.f3, Value.int IntKind.u8 y.f4, Value.bool y.f5, Value.int IntKind.i64 y.f6] 47 (0, 0)) := by
              rw [← hW]; exact old_at (new_is (by simp)) (below_alloc (Below.refl _ _) _)
            have b11 : W.heap[w.heap.size + 1 + 1]? = some (Obj.cells #[Value.int IntKind.i64 o, Value.int IntKind.i64 k, Value.int IntKind.i64 (-1)] 32 (0, 0)) := by
              rw [← hW]; exact new_is (by simp)
            have HB8 := Aside0.mk b8
            have HB11 := Aside0.mk b11
            refine (idxBound_calls A c t HC.out y.f0 (w.heap.size + 1) W (Kd.C_below HR.out HB.out) (blk_cell b10 0)).mono ?_
            clear hW b8 b10 b11 f2' g0 g1 g2 g3 g4 g5 g6
            intro e w3 h3
            obtain ⟨h3, hb3⟩ := h3
            subst h3
            obtain ⟨ix, hix⟩ : ∃ ix, placeI (fun b : S37 => decide (b.f0 = y.f0)) t 0 = ix := ⟨_, rfl⟩
            rw [hix]
            have HIX := Aside0.mk hix
            have HB3 : Aside0 (Below w.heap.size w w3) := ⟨HB.out.trans (hb3.mono HB.out.size)⟩
            have b8 := old_at HB8.out hb3
            have b11 := old_at HB11.out hb3
            have HB8 := Aside0.mk b8
            have e8 : w3.cell? ⟨w.heap.size, 0, none⟩ = some (.int .i64 0) ∧ w3.cell? ⟨w.heap.size, 1, none⟩ = some (.int .i64 0) ∧ w3.cell? ⟨w.heap.size, 2, none⟩ = some (.int .i64 0) := ⟨blk_cell b8 0, blk_cell b8 1, blk_cell b8 2⟩
            obtain ⟨e80, e81, e82⟩ := e8
            have e110 : w3.cell? ⟨w.heap.size + 1 + 1, 0, none⟩ = some (.int .i64 o) := blk_cell b11 0
            have e111 : w3.cell? ⟨w.heap.size + 1 + 1, 1, none⟩ = some (.int .i64 k) := blk_cell b11 1
            have e112 : w3.cell? ⟨w.heap.size + 1 + 1, 2, none⟩ = some (.int .i64 (-1)) := blk_cell b11 2
            have hfz := frozen_of b8
            clear hix b8 b11 hb3
            by_cases hneg : ix < 0
            · have HZ : Aside0 (rs = (⟨0, 0, 0⟩, false)) := ⟨by rw [HX.out, find_place_none _ t (by rw [HIX.out]; exact hneg)]⟩
              go_wp2
              rw [HZ.out]
              refine bodyPost_ret (results_ct rfl _ _ w.heap.size 32 #[.int .i64 0, .int .i64 0, .int .i64 0] (0, 0) _ rfl (blk_put (blk_put (blk_put HB8.out 0 _ rfl) 1 _ rfl) 2 _ rfl) Try.underlying32 rfl (by kernel_rfl)) rfl ⟨rfl, ?_⟩
              exact below_set (below_set (below_set HB3.out (Nat.le_refl _)) (Nat.le_refl _)) (Nat.le_refl _)
            · obtain ⟨j, b, hj, hbj, hpb, hfirst⟩ : ∃ (j : Nat) (b : S37), ix = (j : Int) ∧ t[j]? = some b ∧ True ∧ True := by
                have h0 : t.find? (fun b => decide (b.f0 = y.f0)) = none ∨ ∃ b, t.find? (fun b => decide (b.f0 = y.f0)) = some b := by
                  cases t.find? (fun b => decide (b.f0 = y.f0)) with
                  | none => exact .inl rfl
                  | some b => exact .inr ⟨b, rfl⟩
                rcases h0 with h0 | ⟨b, h0⟩
                · exfalso
                  have := placeI_none (fun b : S37 => decide (b.f0 = y.f0)) t 0 (fun x hx => by have := List.find?_eq_none.1 h0 x hx; simpa using this)
                  rw [HIX.out] at this; omega
                · obtain ⟨q1, j, hjl, q2, q3⟩ := List.find?_eq_some_iff_getElem.1 h0
                  refine ⟨j, b, ?_, by rw [List.getElem?_eq_getElem hjl, q2], trivial, trivial⟩
                  rw [← HIX.out, placeI_at _ t j b (by rw [List.getElem?_eq_getElem hjl, q2]) (fun i z hi hz => by
                    have := q3 i hi
                    rw [List.getElem?_eq_getElem (by omega)] at hz
                    cases hz
                    simpa using this), if_pos q1]
              subst hj
              have HZ : Aside0 (rs = (b.f1, true)) := ⟨by rw [HX.out, find_place _ t j b HIX.out hbj]⟩
              have hjl : j < t.length := (List.getElem?_eq_some_iff.1 hbj).1
              have hjI : (j : Int) < (t.length : Int) := by omega
              obtain ⟨ad3, rfl, t0, t1, t2, t3⟩ := at_T37 (Kd.C_below HR.out HB3.out) (j : Int) (by omega) hjI
              have hrd : rd_T37 t (j : Int) = b := by unfold rd_T37; rw [Int.toNat_natCast, List.getD_eq_getElem?_getD, hbj]; rfl
              rw [hrd] at t0 t1 t2 t3
              rw [Int.toNat_natCast] at t0 t1 t2 t3
              have t2' : w3.cell? ⟨(ad3.add (j * 4)).block, (ad3.add (j * 4)).off + 1 + 1, none⟩ = some (.int .i64 b.f1.f1) := t2
              have t3' : w3.cell? ⟨(ad3.add (j * 4)).block, (ad3.add (j * 4)).off + 1 + 2, none⟩ = some (.int .i64 b.f1.f2) := t3
              obtain ⟨bn, bo, bk, bw⟩ := b
              clear t2 t3
              clear hbj hpb hfirst hrd hneg
              by_cases he : bo = o ∧ bk = k ∧ bw = -1
              · obtain ⟨rfl, rfl, rfl⟩ := he
                go_wp2
                go_quiet (fail)
                go_wp2
                rw [HZ.out]
                refine bodyPost_ret (results_ct rfl _ _ w.heap.size 32 #[.int .i64 bo, .int .i64 bk, .int .i64 (-1)] (0, 0) _ rfl (blk_put (blk_put (blk_put (by (with_reducible repeat (first | refine blk_drewN ?_ _ | refine blk_drew ?_)); exact HB8.out) 0 _ rfl) 1 _ rfl) 2 _ rfl) Try.underlying32 rfl (by kernel_rfl)) rfl ⟨rfl, ?_⟩
                exact below_set (below_set (below_set (by repeat (first | exact HB3.out | refine pw_below_drewN ?_ _)) (Nat.le_refl _)) (Nat.le_refl _)) (Nat.le_refl _)
              · have hef : (bo == o && (bk == k && (bw == -1))) = false := by
                  rw [Bool.eq_false_iff]; intro h; apply he; simpa using h
                clear he
                go_wp2
                go_quiet (fail)
                go_wp2
                rw [HZ.out]
                refine bodyPost_ret (results_ct rfl _ _ w.heap.size 32 #[.int .i64 bo, .int .i64 bk, .int .i64 bw] (0, 0) _ rfl (blk_put (blk_put (blk_put (by (with_reducible repeat (first | refine blk_drewN ?_ _ | refine blk_drew ?_)); exact HB8.out) 0 _ rfl) 1 _ rfl) 2 _ rfl) Try.underlying32 rfl (by kernel_rfl)) rfl ⟨rfl, ?_⟩
                exact below_set (below_set (below_set (by repeat (first | exact HB3.out | refine pw_below_drewN ?_ _)) (Nat.le_refl _)) (Nat.le_refl _)) (Nat.le_refl _)
end Go.Proofs.Ytchkjfokoenlnaa.Sym
