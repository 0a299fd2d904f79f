/- What instr.of hands back. No condition. -/
import Derived.Test.YtadbonmkockakaaQInsB
import Derived.LoopTactic
namespace Go.Proofs.Ytadbonmkockakaa.Ins
open Go.RowKit Go.Proofs.YtadbonmkockakaaW.PrintWords Go.Proofs.YtadbonmkockakaaW.PrintLast Go.Proofs.Ytadbonmkockakaa.Alu Go.Proofs.Ytadbonmkockakaa.InsP
set_option linter.unusedVariables false
set_option linter.unusedSimpArgs false

theorem FamsAt.below {w w1 : World} {v : Value} (h : FamsAt w v) (hb : Below w.heap.size w w1) : FamsAt w1 v := by
  obtain ⟨g, e, h⟩ := h
  refine ⟨g, e, fun k hk => ?_⟩
  obtain ⟨nv, wv, h0, h1, h2, h3, hs, hi⟩ := h k hk
  exact ⟨nv, wv, pw_cell_below hb h0, pw_cell_below hb h1, pw_cell_below hb h2, pw_cell_below hb h3, hs.below hb, hi.below hb⟩
theorem fam_bounds : ∀ k, k < 18 → 0 ≤ (fam k).first ∧ (fam k).first ≤ 68 ∧ (fam k).words.length ≤ 10 ∧ 0 < (fam k).words.length ∧ (fam k).names.length = (fam k).words.length := by decide
theorem fam_apart : ∀ k, k < 18 → ∀ j, j < k → (fam j).first + (fam j).words.length ≤ (fam k).first := by decide

theorem RowS.open_ {w : World} {v : Value} {xs : List ByteArray} (h : RowS w v xs) : ∃ A c, v = .slice A xs.length c := by obtain ⟨A, c, e, _⟩ := h; exact ⟨A, c, e⟩
theorem RowI.open_ {w : World} {v : Value} {xs : List Int} (h : RowI w v xs) : ∃ A c, v = .slice A xs.length c := by obtain ⟨A, c, e, _⟩ := h; exact ⟨A, c, e⟩
/-- The families' block, from a base on. -/
def FamsB (base : Nat) (w : World) (g : Nat) : Prop := FamsAt w (.slice (some ⟨g, 0, none⟩) 18 18) ∧ base < g ∧ g < w.heap.size
theorem FamsB.below {b : Nat} {w w1 : World} {g : Nat} (h : FamsB b w g) (hb : Below w.heap.size w w1) : FamsB b w1 g := ⟨h.1.below hb, h.2.1, Nat.lt_of_lt_of_le h.2.2 hb.size⟩
theorem FamsAt.get {w : World} {g : Nat} (h : FamsAt w (.slice (some ⟨g, 0, none⟩) 18 18)) (k : Nat) (hk : k < 18) : ∃ A c A' c', w.cell? ⟨g, k * 4, none⟩ = some (.int .u8 (fam k).first) ∧ w.cell? ⟨g, k * 4 + 1, none⟩ = some (.func (.func (fnOf (fam k).form)) #[] #[])
    ∧ w.cell? ⟨g, k * 4 + 2, none⟩ = some (.slice A (fam k).names.length c) ∧ w.cell? ⟨g, k * 4 + 3, none⟩ = some (.slice A' (fam k).words.length c') ∧ RowS w (.slice A (fam k).names.length c) (fam k).names ∧ RowI w (.slice A' (fam k).words.length c') (fam k).words := by
  obtain ⟨g', e, h⟩ := h
  obtain rfl : g = g' := by simpa using e
  obtain ⟨nv, wv, h0, h1, h2, h3, hs, hi⟩ := h k hk
  obtain ⟨A, c, rfl⟩ := hs.open_
  obtain ⟨A', c', rfl⟩ := hi.open_
  rw [Nat.mul_comm] at h0 h1 h2 h3
  exact ⟨A, c, A', c', h0, h1, h2, h3, hs, hi⟩
theorem FamsAt.lt {w : World} {g : Nat} (h : FamsAt w (.slice (some ⟨g, 0, none⟩) 18 18)) : g < w.heap.size := by
  obtain ⟨A, c, A', c', h0, _⟩ := h.get 0 (by decide)
  exact World.block_lt_of_cell? w _ h0
theorem readsS {w : World} {A : Option Addr} {n : Nat} {xs : List ByteArray} (h : Kd.C Kd.string w A n xs) : ReadsOf Value.string ByteArray.empty w A n xs := by
  refine ⟨h.1, h.2.1, fun hn => ?_⟩
  obtain ⟨ad, e, hc⟩ := h.2.2 hn
  refine ⟨ad, e, fun j hj => ?_⟩
  have hl : j < xs.length := by have := h.1; omega
  obtain ⟨c, hl', hk, hu⟩ := hc j _ (List.getElem?_eq_getElem hl)
  have hk' : c = [.string xs[j]] := hk
  subst hk'
  have h2 := hu 0 _ rfl
  rw [List.getD_eq_getElem?_getD, List.getElem?_eq_getElem hl]
  simpa [Kd.string, Kd.scalar] using h2
theorem readsI {w : World} {A : Option Addr} {n : Nat} {xs : List Int} (h : Kd.C (Kd.int .u32) w A n xs) : ReadsOf (Value.int .u32) 0 w A n xs := by
  refine ⟨h.1, h.2.1, fun hn => ?_⟩
  obtain ⟨ad, e, hc⟩ := h.2.2 hn
  refine ⟨ad, e, fun j hj => ?_⟩
  have hl : j < xs.length := by have := h.1; omega
  obtain ⟨c, hl', hk, hu⟩ := hc j _ (List.getElem?_eq_getElem hl)
  have hk' : c = [.int .u32 xs[j]] := hk
  subst hk'
  have h2 := hu 0 _ rfl
  rw [List.getD_eq_getElem?_getD, List.getElem?_eq_getElem hl]
  simpa [Kd.int, Kd.scalar] using h2
theorem reads_far {α : Type} {enc : α → Value} {d : α} {w w' : World} {b : Nat} {cs : Array Value} {t : TypeId} {A : Option Addr} {n : Nat} {xs : List α} (h : ReadsOf enc d w A n xs) (hb : w.heap[b]? = some (.cells cs t (0, 0)))
    (hne : ∀ (o : Nat) x, cs[o]? ≠ some (enc x)) (hW : ∀ a : Addr, a.block ≠ b → a.block < w.heap.size → w'.cell? a = w.cell? a) : ReadsOf enc d w' A n xs := by
  refine ⟨h.1, h.2.1, fun hn => ?_⟩
  obtain ⟨ad, e, hc⟩ := h.2.2 hn
  refine ⟨ad, e, fun j hj => ?_⟩
  have h1 := hc j hj
  rw [hW _ ?_ (World.block_lt_of_cell? w _ h1), h1]
  intro hab
  have h2 : w.cell? (ad.add j) = if (ad.add j).spot.isSome then none else cs[(ad.add j).off]? := by
    simp only [World.cell?, hab, hb]
  rw [h1] at h2
  split at h2
  · cases h2
  · exact hne _ _ h2.symm
theorem RowS.far {w w' : World} {b : Nat} {cs : Array Value} {t : TypeId} {v : Value} {xs : List ByteArray} (h : RowS w v xs) (hb : w.heap[b]? = some (.cells cs t (0, 0)))
    (hne : ∀ (o : Nat) x, cs[o]? ≠ some (Value.string x)) (hW : ∀ a : Addr, a.block ≠ b → a.block < w.heap.size → w'.cell? a = w.cell? a) : RowS w' v xs := by
  obtain ⟨A, c, e, hC⟩ := h
  exact ⟨A, c, e, Kd.C_of_reads (reads_far (readsS hC) hb hne hW)⟩
theorem RowI.far {w w' : World} {b : Nat} {cs : Array Value} {t : TypeId} {v : Value} {xs : List Int} (h : RowI w v xs) (hb : w.heap[b]? = some (.cells cs t (0, 0)))
    (hne : ∀ (o : Nat) x, cs[o]? ≠ some (Value.int .u32 x)) (hW : ∀ a : Addr, a.block ≠ b → a.block < w.heap.size → w'.cell? a = w.cell? a) : RowI w' v xs := by
  obtain ⟨A, c, e, hC⟩ := h
  exact ⟨A, c, e, Kd.C_of_reads (reads_far (readsI hC) hb hne hW)⟩
theorem zero69_S (o : Nat) (x : ByteArray) : (#[Value.int IntKind.u8 0, Value.nilFunc, Value.slice none 0 0, Value.slice none 0 0] : Array Value)[o]? ≠ some (Value.string x) := by
  match o with
  | 0 => simp
  | 1 => simp
  | 2 => simp
  | 3 => simp
  | o + 4 => simp
theorem zero69_I (o : Nat) (x : Int) : (#[Value.int IntKind.u8 0, Value.nilFunc, Value.slice none 0 0, Value.slice none 0 0] : Array Value)[o]? ≠ some (Value.int .u32 x) := by
  match o with
  | 0 => simp
  | 1 => simp
  | 2 => simp
  | 3 => simp
  | o + 4 => simp
theorem put4 (w : World) (b : Nat) (x0 x1 x2 x3 : Value) (o : Obj) : ∀ a : Addr, a.block ≠ b → a.block < w.heap.size →
    (((((w.setCell ⟨b, 0, none⟩ x0).setCell ⟨b, 1, none⟩ x1).setCell ⟨b, 2, none⟩ x2).setCell ⟨b, 3, none⟩ x3).alloc o).drew.cell? a = w.cell? a := by
  intro a ha hl
  have h0 : b ≠ a.block := fun e => ha e.symm
  rw [show ∀ W : World, W.drew.cell? a = W.cell? a from fun _ => rfl, World.cell?_alloc_lt _ _ _ (by simpa using hl),
    World.cell?_setCell_far _ _ _ _ h0, World.cell?_setCell_far _ _ _ _ h0, World.cell?_setCell_far _ _ _ _ h0, World.cell?_setCell_far _ _ _ _ h0]
theorem cell_of_block {w : World} {b : Nat} {cs : Array Value} {t : TypeId} (h : w.heap[b]? = some (.cells cs t (0, 0))) (o : Nat) : w.cell? ⟨b, o, none⟩ = cs[o]? := by
  simp [World.cell?, h]
theorem free_of_block {w : World} {b : Nat} {cs : Array Value} {t : TypeId} (h : w.heap[b]? = some (.cells cs t (0, 0))) (o : Nat) : w.frozen? ⟨b, o, none⟩ = false := by
  simp [World.frozen?, h]
end Go.Proofs.Ytadbonmkockakaa.Ins
