/- slices.Index over names, slices.IndexFunc over entries and over bounds, by contract. -/
import Derived.Test.YtchkjfokoenlnaaQSyG1
namespace Go.Proofs.Ytchkjfokoenlnaa.Sym
open Go.RowKit Go.Proofs.YtchkjfokoenlnaaW.PrintWords Go.Proofs.YtchkjfokoenlnaaW.PrintLast Go.Proofs.Ytchkjfokoenlnaa.QSy
set_option linter.unusedVariables false
set_option linter.unusedSimpArgs false
/-- The first place, or -1. -/
def placeI {α : Type} (p : α → Bool) : List α → Nat → Int
  | [], _ => -1
  | x :: r, i => if p x then (i : Int) else placeI p r (i + 1)
def idxS (own : List ByteArray) (n : ByteArray) : Int := placeI (fun s => decide (s = n)) own 0
theorem toList_eq {s t : ByteArray} : s.toList = t.toList ↔ s = t := by
  rw [ByteArray.toList_eq, ByteArray.toList_eq]
  constructor
  · intro h; cases s; cases t; simp only [Array.toList_inj] at h; rw [h]
  · intro h; rw [h]
theorem beq_names (s t : ByteArray) : (s.toList == t.toList) = decide (s = t) := by
  by_cases h : s = t
  · subst h; simp
  · rw [decide_eq_false h]
    exact beq_eq_false_iff_ne.2 (fun e => h (toList_eq.1 e))
theorem index_f (own : List ByteArray) (n : ByteArray) (hl : own.length ≤ 9223372036854775807) : ∃ k, slices_Index_string_string.f k own n = some (idxS own n) := by
  have key : ∀ (r : List ByteArray) (i : Nat), own = own.take i ++ r → i + r.length = own.length → ∃ k, slices_Index_string_string.l0 k own n (own.length : Int) (i : Int) = some (placeI (fun s => decide (s = n)) r i) := by
    intro r
    induction r with
    | nil =>
      intro i h1 h2
      refine ⟨1, ?_⟩
      simp only [slices_Index_string_string.l0, placeI]
      rw [if_neg (by simp at h2; omega)]
    | cons x r ih =>
      intro i h1 h2
      simp only [List.length_cons] at h2
      have hx : own[i]? = some x := by
        rw [h1, List.getElem?_append_right (by simp; omega)]
        simp
        rw [Nat.min_eq_left (by omega)]
        simp
      have hr : rdOf ByteArray.empty own (i : Int) = x := by
        unfold rdOf
        rw [Int.toNat_natCast, List.getD_eq_getElem?_getD, hx]; rfl
      by_cases he : x = n
      · refine ⟨1, ?_⟩
        simp only [slices_Index_string_string.l0, placeI]
        rw [if_pos (by omega), if_pos (by omega), if_pos (by omega), hr, if_pos (by rw [he]), he]
        simp
      · obtain ⟨k, hk⟩ := ih (i + 1) (by
          have hlt : i < own.length := by omega
          conv => lhs; rw [h1]
          rw [List.take_succ_eq_append_getElem hlt]
          have : own[i] = x := by rw [List.getElem?_eq_getElem hlt] at hx; exact Option.some.inj hx
          rw [this]; simp) (by omega)
        refine ⟨k + 1, ?_⟩
        simp only [slices_Index_string_string.l0, placeI]
        rw [if_pos (by omega), if_pos (by omega), if_pos (by omega), hr, if_neg (fun h => he (toList_eq.1 h).symm)]
        have hw : wrap64 ((i : Int) + 1) = ((i + 1 : Nat) : Int) := by unfold wrap64; omega
        rw [hw, hk]
        simp [he]
  obtain ⟨k, hk⟩ := key own 0 (by simp) (by omega)
  exact ⟨k, hk⟩
theorem index_calls (A : Option Addr) (c : Nat) (own : List ByteArray) (n : ByteArray) (w : World) (hr : Kd.C Kd.string w A own.length own) (hc : own.length ≤ c) :
    Calls Try.prog 22 #[.slice A own.length c, .string n] w fun e w' => e = .returned (.int .i64 (idxS own n)) ∧ Drawn0 w w' := by
  obtain ⟨k, hk⟩ := index_f own n hr.2.1
  exact slices_Index_string_string.calls k A c own n _ w hr hc hk
theorem placeI_snoc {α : Type} (p : α → Bool) (l : List α) (i : Nat) (h : ∀ x ∈ l, p x = false) (r : List α) : placeI p (l ++ r) i = placeI p r (i + l.length) := by
  induction l generalizing i with
  | nil => rfl
  | cons x l ih =>
    simp only [List.cons_append, placeI, h x (by simp)]
    rw [ih (i + 1) (fun y hy => h y (by simp [hy]))]
    simp [Nat.add_comm, Nat.add_left_comm]
theorem placeI_at {α : Type} (p : α → Bool) (l : List α) (j : Nat) (x : α) (hx : l[j]? = some x) (h : ∀ i y, i < j → l[i]? = some y → p y = false) : placeI p l 0 = if p x then (j : Int) else placeI p (l.drop (j + 1)) (j + 1) := by
  have hlt := (List.getElem?_eq_some_iff.1 hx).1
  have hs : l = l.take j ++ x :: l.drop (j + 1) := by
    have := List.drop_eq_getElem_cons hlt
    rw [List.getElem?_eq_getElem hlt] at hx
    rw [← Option.some.inj hx, ← this, List.take_append_drop]
  have ht : ∀ y ∈ l.take j, p y = false := fun y hy => by
    obtain ⟨i, hi⟩ := List.getElem?_of_mem hy
    have hij : i < j := by have := (List.getElem?_eq_some_iff.1 hi).1; simp at this; omega
    rw [List.getElem?_take_of_lt hij] at hi
    exact h i y hij hi
  conv => lhs; rw [hs]
  rw [placeI_snoc p _ 0 ht]
  simp only [placeI, List.length_take]
  rw [Nat.min_eq_left (by omega), Nat.zero_add]
theorem placeI_none {α : Type} (p : α → Bool) (l : List α) (i : Nat) (h : ∀ x ∈ l, p x = false) : placeI p l i = -1 := by
  have := placeI_snoc p l i h []
  rw [List.append_nil] at this
  rw [this]; rfl
/-- The closure: is the entry's name defined twice? -/
theorem twice_calls (p : Nat) (b : Bool) (w : World) (hp : w.cell? ⟨p, 5, none⟩ = some (.bool b)) : Calls Try.prog 21 #[.pointer (some ⟨p, 0, none⟩)] w fun e w' => e = .returned (.bool b) ∧ w' = w := by
  go_enter Try.func21, Try.ntmps21
  go_wp2
  go_ret
  exact ⟨rfl, rfl⟩
set_option maxRecDepth 100000 in
set_option maxHeartbeats 4000000 in
theorem idxTwice_calls (A : Option Addr) (c : Nat) (es : List Ent) (ps : List Nat) (w : World) (hr : Kd.C kptr w A ps.length ps) (hl : ps.length = es.length) (hb : ∀ (j : Nat) (e : Ent) (p : Nat), es[j]? = some e → ps[j]? = some p → w.heap[p]? = some (.cells (encE e).toArray 62 (0, 0))) :
    Calls Try.prog 20 #[.slice A ps.length c, .func (.func 21) #[] #[]] w fun e w' => e = .returned (.int .i64 (placeI Ent.twice es 0)) ∧ w' = w := by
  have HR := Aside0.mk hr
  have HB := Aside0.mk hb
  have HL := Aside0.mk hl
  have hlen : ps.length ≤ 9223372036854775807 := hr.2.1
  clear hr hb hl
  go_enter Try.func20, Try.ntmps20
  go_wp2
  go_loop [8] (fun v8 => ∃ j : Nat, v8 = .int .i64 j ∧ Aside0 (j ≤ ps.length) ∧ Aside0 (∀ i y, i < j → es[i]? = some y → y.twice = false)) (fun v8 => ps.length - (intOf v8).toNat)
  case atStart => exact ⟨0, rfl, ⟨Nat.zero_le _⟩, ⟨fun i y hi => absurd hi (Nat.not_lt_zero _)⟩⟩
  case round =>
    obtain ⟨j, rfl, HJ, HD⟩ := hrel
    by_cases hj : j < ps.length
    · have hjI : (j : Int) < (ps.length : Int) := by omega
      have hj2 : j < es.length := by have := HL.out; omega
      obtain ⟨ad, cs, e0, _, hK, hc0⟩ := Kd.C_get HR.out 0 (j : Int) (by omega) hjI
      obtain ⟨p, hp⟩ : ∃ p, ps.getD j 0 = p := ⟨_, rfl⟩
      have hK2 : cs = [.pointer (some ⟨p, 0, none⟩)] := by rw [← hp]; exact hK
      have f0 : w.cell? (ad.add j) = some (.pointer (some ⟨p, 0, none⟩)) := by
        have := hc0 0 _ (by rw [hK2]; rfl)
        rw [Int.toNat_natCast] at this
        simpa [kptr, Kd.scalar] using this
      subst e0
      obtain ⟨e, he⟩ : ∃ e, es[j] = e := ⟨_, rfl⟩
      have hej : es[j]? = some e := by rw [List.getElem?_eq_getElem hj2, he]
      have hpj : ps[j]? = some p := by rw [List.getElem?_eq_getElem hj, ← hp, List.getD_eq_getElem?_getD, List.getElem?_eq_getElem hj]; rfl
      have hblk := HB.out j e p hej hpj
      have hcell : w.cell? ⟨p, 5, none⟩ = some (.bool e.twice) := blk_cell hblk 5
      obtain ⟨tw, htw⟩ : ∃ b, e.twice = b := ⟨_, rfl⟩
      rw [htw] at hcell
      have HE := Aside0.mk hej
      have HTW := Aside0.mk htw
      have TC := Aside0.mk (twice_calls p tw w hcell)
      have hwk : wrap64 ((j : Int) + 1) = ((j + 1 : Nat) : Int) := by unfold wrap64; omega
      clear hK hc0 hK2 hp he hej hpj hblk hcell htw
      go_wp2_with fail
      refine TC.out.mono ?_
      rintro e1 w1 ⟨rfl, rfl⟩
      cases tw with
      | true =>
        go_wp2
        go_ret
        exact ⟨by rw [placeI_at Ent.twice es j e HE.out HD.out, HTW.out]; rfl, rfl⟩
      | false =>
        go_wp2
        refine ⟨⟨j + 1, by first | rfl | (simp; done) | (rw [hwk]; done), ⟨hj⟩, ⟨fun i y hi hy => ?_⟩⟩, by simp only [intOf]; omega⟩
        rcases Nat.lt_succ_iff_lt_or_eq.1 hi with h | h
        · exact HD.out i y h hy
        · subst h; rw [HE.out] at hy; cases hy; exact HTW.out
    · have hjn : j = ps.length := by have := HJ.out; omega
      have hjI : ¬ (j : Int) < (ps.length : Int) := by omega
      go_wp2
      go_ret
      refine ⟨?_, rfl⟩
      rw [placeI_none Ent.twice es 0 (fun x hx => by
        obtain ⟨i, hi⟩ := List.getElem?_of_mem hx
        exact HD.out i x (by have := (List.getElem?_eq_some_iff.1 hi).1; have := HL.out; omega) hi)]
      rfl
end Go.Proofs.Ytchkjfokoenlnaa.Sym
