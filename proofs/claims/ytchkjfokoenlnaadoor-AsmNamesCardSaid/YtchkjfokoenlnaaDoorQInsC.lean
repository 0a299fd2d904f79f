/- What instr.of hands back. No condition. -/
import Derived.Test.YtchkjfokoenlnaaDoorQInsB
import Derived.LoopTactic
namespace Go.Proofs.YtchkjfokoenlnaaDoor.Ins
open Go.RowKit Go.Proofs.YtchkjfokoenlnaaDoorW.PrintWords Go.Proofs.YtchkjfokoenlnaaDoorW.PrintLast Go.Proofs.YtchkjfokoenlnaaDoor.InsP
set_option linter.unusedVariables false
set_option linter.unusedSimpArgs false

theorem FamsAt.below {w w1 : World} {v : Value} (h : FamsAt w v) (hb : Below w.heap.size w w1) : FamsAt w1 v := by
  obtain ⟨g, e, h⟩ := h
  refine ⟨g, e, fun k hk => ?_⟩
  obtain ⟨nv, wv, h0, h1, h2, h3, hs, hi⟩ := h k hk
  exact ⟨nv, wv, pw_cell_below hb h0, pw_cell_below hb h1, pw_cell_below hb h2, pw_cell_below hb h3, hs.below hb, hi.below hb⟩
theorem fam_bounds : ∀ k, k < 18 → 0 ≤ (fam k).first ∧ (fam k).first ≤ 68 ∧ (fam k).words.length ≤ 10 ∧ 0 < (fam k).words.length ∧ (fam k).names.length = (fam k).words.length := by decide
theorem fam_apart : ∀ k, k < 18 → ∀ j, j < k → (fam j).first + (fam j).words.length ≤ (fam k).first := by decide

theorem RowS.open_ {w : World} {v : Value} {xs : List ByteArray} (h : RowS w v xs) : ∃ A c, v = .slice A xs.length c := by obtain ⟨A, c, e, _⟩ := h; exact ⟨A, c, e⟩
theorem RowI.open_ {w : World} {v : Value} {xs : List Int} (h : RowI w v xs) : ∃ A c, v = .slice A xs.length c := by obtain ⟨A, c, e, _⟩ := h; exact ⟨A, c, e⟩
/-- The families' block, from a base on. -/
def FamsB (base : Nat) (w : World) (g : Nat) : Prop := FamsAt w (.slice (some ⟨g, 0, none⟩) 18 18) ∧ base < g ∧ g < w.heap.size
theorem FamsB.below {b : Nat} {w w1 : World} {g : Nat} (h : FamsB b w g) (hb : Below w.heap.size w w1) : FamsB b w1 g := ⟨h.1.below hb, h.2.1, Nat.lt_of_lt_of_le h.2.2 hb.size⟩
theorem FamsAt.get {w : World} {g : Nat} (h : FamsAt w (.slice (some ⟨g, 0, none⟩) 18 18)) (k : Nat) (hk : k < 18) : ∃ A c A' c', w.cell? ⟨g, k * 4, none⟩ = some (.int .u8 (fam k).first) ∧ w.cell? ⟨g, k * 4 + 1, none⟩ = some (.func (.func (fnOf (fam k).form)) #[] #[])
    ∧ w.cell? ⟨g, k * 4 + 2, none⟩ = some (.slice A (fam k).names.length c) ∧ w.cell? ⟨g, k * 4 + 3, none⟩ = some (.slice A' (fam k).words.length c') ∧ RowS w (.slice A (fam k).names.length c) (fam k).names ∧ RowI w (.slice A' (fam k).words.length c') (fam k).words := by
  obtain ⟨g', e, h⟩ := h
  obtain rfl : g = g' := by simpa using e
  obtain ⟨nv, wv, h0, h1, h2, h3, hs, hi⟩ := h k hk
  obtain ⟨A, c, rfl⟩ := hs.open_
  obtain ⟨A', c', rfl⟩ := hi.open_
  rw [Nat.mul_comm] at h0 h1 h2 h3
  exact ⟨A, c, A', c', h0, h1, h2, h3, hs, hi⟩
theorem FamsAt.lt {w : World} {g : Nat} (h : FamsAt w (.slice (some ⟨g, 0, none⟩) 18 18)) : g < w.heap.size := by
  obtain ⟨A, c, A', c', h0, _⟩ := h.get 0 (by decide)
  exact World.block_lt_of_cell? w _ h0
theorem readsS {w : World} {A : Option Addr} {n : Nat} {xs : List ByteArray} (h : Kd.C Kd.string w A n xs) : ReadsOf Value.string ByteArray.empty w A n xs := by
  refine ⟨h.1, h.2.1, fun hn => ?_⟩
  obtain ⟨ad, e, hc⟩ := h.2.2 hn
  refine ⟨ad, e, fun j hj => ?_⟩
  have hl : j < xs.length := by have := h.1; omega
  obtain ⟨c, hl', hk, hu⟩ := hc j _ (List.getElem?_eq_getElem hl)
  have hk' : c = [.string xs[j]] := hk
  subst hk'
  have h2 := hu 0 _ rfl
  rw [List.getD_eq_getElem?_getD, List.getElem?_eq_getElem hl]
  simpa [Kd.string, Kd.scalar] using h2
theorem readsI {w : World} {A : Option Addr} {n : Nat} {xs : List Int} (h : Kd.C (Kd.int .u32) w A n xs) : ReadsOf (Value.int .u32) 0 w A n xs := by
  refine ⟨h.1, h.2.1, fun hn => ?_⟩
  obtain ⟨ad, e, hc⟩ := h.2.2 hn
  refine ⟨ad, e, fun j hj => ?_⟩
  have hl : j < xs.length := by have := h.1; omega
  obtain ⟨c, hl', hk, hu⟩ := hc j _ (List.getElem?_eq_getElem hl)
  have hk' : c = [.int .u32 xs[j]] := hk
  subst hk'
  have h2 := hu 0 _ rfl
  rw [List.getD_eq_getElem?_getD, List.getElem?_eq_getElem hl]
  simpa [Kd.int, Kd.scalar] using h2
theorem reads_far {α : Type} {enc : α → Value} {d : α} {w w' : World} {b : Nat} {cs : Array Value} {t : TypeId} {A : Option Addr} {n : Nat} {xs : List α} (h : ReadsOf enc d w A n xs) (hb : w.heap[b]? = some (.cells cs t (0, 0)))
    (hne : ∀ (o : Nat) x, cs[o]? ≠ some (enc x)) (hW : ∀ a : Addr, a.block ≠ b → a.block < w.heap.size → w'.cell? a = w.cell? a) : ReadsOf enc d w' A n xs := by
  refine ⟨h.1, h.2.1, fun hn => ?_⟩
  obtain ⟨ad, e, hc⟩ := h.2.2 hn
  refine ⟨ad, e, fun j hj => ?_⟩
  have h1 := hc j hj
  rw [hW _ ?_ (World.block_lt_of_cell? w _ h1), h1]
  intro hab
  have h2 : w.cell? (ad.add j) = if (ad.add j).spot.isSome then none else cs[(ad.add j).off]? := by
    simp only [World.cell?, hab, hb]
  rw [h1] at h2
  split at h2
  · cases h2
  · exact hne _ _ h2.symm
theorem RowS.far {w w' : World} {b : Nat} {cs : Array Value} {t : TypeId} {v : Value} {xs : List ByteArray} (h : RowS w v xs) (hb : w.heap[b]? = some (.cells cs t (0, 0)))
    (hne : ∀ (o : Nat) x, cs[o]? ≠ some (Value.string x)) (hW : ∀ a : Addr, a.block ≠ b → a.block < w.heap.size → w'.cell? a = w.cell? a) : RowS w' v xs := by
  obtain ⟨A, c, e, hC⟩ := h
  exact ⟨A, c, e, Kd.C_of_reads (reads_far (readsS hC) hb hne hW)⟩
theorem RowI.far {w w' : World} {b : Nat} {cs : Array Value} {t : TypeId} {v : Value} {xs : List Int} (h : RowI w v xs) (hb : w.heap[b]? = some (.cells cs t (0, 0)))
    (hne : ∀ (o : Nat) x, cs[o]? ≠ some (Value.int .u32 x)) (hW : ∀ a : Addr, a.block ≠ b → a.block < w.heap.size → w'.cell? a = w.cell? a) : RowI w' v xs := by
  obtain ⟨A, c, e, hC⟩ := h
  exact ⟨A, c, e, Kd.C_of_reads (reads_far (readsI hC) hb hne hW)⟩
theorem zero69_S (o : Nat) (x : ByteArray) : (#[Value.int IntKind.u8 0, Value.nilFunc, Value.slice none 0 0, Value.slice none 0 0] : Array Value)[o]? ≠ some (Value.string x) := by
  match o with
  | 0 => simp
  | 1 => simp
  | 2 => simp
  | 3 => simp
  | o + 4 => simp
theorem zero69_I (o : Nat) (x : Int) : (#[Value.int IntKind.u8 0, Value.nilFunc, Value.slice none 0 0, Value.slice none 0 0] : Array Value)[o]? ≠ some (Value.int .u32 x) := by
  match o with
  | 0 => simp
  | 1 => simp
  | 2 => simp
  | 3 => simp
  | o + 4 => simp
theorem put4 (w : World) (b : Nat) (x0 x1 x2 x3 : Value) (o : Obj) : ∀ a : Addr, a.block ≠ b → a.block < w.heap.size →
    (((((w.setCell ⟨b, 0, none⟩ x0).setCell ⟨b, 1, none⟩ x1).setCell ⟨b, 2, none⟩ x2).setCell ⟨b, 3, none⟩ x3).alloc o).drew.cell? a = w.cell? a := by
  intro a ha hl
  have h0 : b ≠ a.block := fun e => ha e.symm
  rw [show ∀ W : World, W.drew.cell? a = W.cell? a from fun _ => rfl, World.cell?_alloc_lt _ _ _ (by simpa using hl),
    World.cell?_setCell_far _ _ _ _ h0, World.cell?_setCell_far _ _ _ _ h0, World.cell?_setCell_far _ _ _ _ h0, World.cell?_setCell_far _ _ _ _ h0]
theorem cell_of_block {w : World} {b : Nat} {cs : Array Value} {t : TypeId} (h : w.heap[b]? = some (.cells cs t (0, 0))) (o : Nat) : w.cell? ⟨b, o, none⟩ = cs[o]? := by
  simp [World.cell?, h]
theorem free_of_block {w : World} {b : Nat} {cs : Array Value} {t : TypeId} (h : w.heap[b]? = some (.cells cs t (0, 0))) (o : Nat) : w.frozen? ⟨b, o, none⟩ = false := by
  simp [World.frozen?, h]
set_option maxHeartbeats 4000000 in
set_option maxRecDepth 100000 in
theorem of_yes (k i : Nat) (hk : k < 18) (hi : i < (fam k).words.length) (w : World) : Calls Tryd.prog 20 #[.int .u8 ((fam k).first + i)] w
    fun e w' => ∃ A n c A' n' c', e = .returned (.tuple #[.agg #[.int .u8 (fam k).first, .func (.func (fnOf (fam k).form)) #[] #[], .slice A n c, .slice A' n' c'], .int .i64 i, .bool true]) ∧ RowS w' (.slice A n c) (fam k).names ∧ RowI w' (.slice A' n' c') (fam k).words ∧ Below w.heap.size w w' := by
  obtain ⟨F0, F1, L0, L1, NL⟩ := fam_bounds k hk
  obtain ⟨o, ho⟩ : ∃ o : Int, (fam k).first + i = o := ⟨_, rfl⟩
  rw [ho]
  have HO := Aside0.mk ho
  have HK := Aside0.mk hk
  have HI := Aside0.mk hi
  have HF' : Aside0 ((fam k).first + i = o ∧ i < (fam k).words.length ∧ 0 ≤ (fam k).first ∧ (fam k).first ≤ 68 ∧ (fam k).words.length ≤ 10) := ⟨ho, hi, F0, F1, L0⟩
  have o0 : 0 ≤ o := by omega
  have o1 : o < 256 := by omega
  clear ho hk hi F0 F1 L0 L1 NL
  go_enter Tryd.func20, Tryd.ntmps20
  go_wp2_with fail
  refine (families_calls _).mono ?_
  rintro e w1 ⟨v, rfl, hF, hb⟩
  have hsz := hb.size
  have hz : w.heap.size + 1 ≤ w1.heap.size := by simpa using hsz
  have hblk := hb.block w.heap.size (by simp)
  have hblk2 : w1.heap[w.heap.size]? = some (.cells #[Value.int IntKind.u8 0, Value.nilFunc, Value.slice none 0 0, Value.slice none 0 0] 62 (0, 0)) := hblk.trans (by rw [show ∀ o, (w.alloc o).heap = w.heap.push o from fun _ => rfl]; exact Array.getElem?_push_size)
  clear hblk
  have hblk := hblk2
  clear hblk2
  obtain ⟨g, rfl, hF2⟩ := hF
  have hF : Aside0 (FamsAt w1 (.slice (some ⟨g, 0, none⟩) 18 18)) := ⟨⟨g, rfl, hF2⟩⟩
  have hB : Aside0 (Below w.heap.size w w1) := ⟨((Below.refl _ _).alloc (Nat.le_refl _) _).trans (hb.mono (by simp))⟩
  have hW : Aside0 (w1.heap[w.heap.size]? = some (.cells #[Value.int IntKind.u8 0, Value.nilFunc, Value.slice none 0 0, Value.slice none 0 0] 62 (0, 0)) ∧ w.heap.size + 1 ≤ w1.heap.size) := ⟨hblk, hz⟩
  clear hblk hz hsz hb hF2
  go_wp2
  go_loopw [9] (fun v9 wr => ∃ j : Nat, v9 = .int .i64 j ∧ Aside0 (j ≤ k) ∧ Aside0 (FamsAt wr (.slice (some ⟨g, 0, none⟩) 18 18)) ∧ Aside0 (Below w.heap.size w wr) ∧ Aside0 (wr.heap[w.heap.size]? = some (.cells #[Value.int IntKind.u8 0, Value.nilFunc, Value.slice none 0 0, Value.slice none 0 0] 62 (0, 0)) ∧ w.heap.size + 1 ≤ wr.heap.size)) (fun v9 _ => 18 - (intOf v9).toNat)
  case atStart => exact ⟨0, rfl, ⟨Nat.zero_le _⟩, hF, hB, hW⟩
  case round =>
    clear hF hB hW
    obtain ⟨j, rfl, HJ, hF, hB, hW⟩ := hrel
    have hj18 : j < 18 := by have := HJ.out; have := HK.out; omega
    obtain ⟨A, c, A', c', h0, h1, h2, h3, hs, hw⟩ := hF.out.get j hj18
    have hglt := hF.out.lt
    obtain ⟨hblk, hz⟩ := hW.out
    obtain ⟨F0, F1, L0, L1, NL⟩ := fam_bounds j hj18
    obtain ⟨F, hFF⟩ : ∃ F, (fam j).first = F := ⟨_, rfl⟩
    obtain ⟨fn, hfn⟩ : ∃ n, fnOf (fam j).form = n := ⟨_, rfl⟩
    obtain ⟨N, hN⟩ : ∃ n, (fam j).names.length = n := ⟨_, rfl⟩
    obtain ⟨L, hL⟩ : ∃ n, (fam j).words.length = n := ⟨_, rfl⟩
    rw [hFF] at h0 F0 F1
    rw [hfn] at h1
    rw [hN] at h2 NL hs
    rw [hL] at h3 L0 L1 NL hw
    have HS := Aside0.mk hs; have HW := Aside0.mk hw
    have EQ : Aside0 ((fam j).first = F ∧ fnOf (fam j).form = fn ∧ (fam j).names.length = N ∧ (fam j).words.length = L) := ⟨hFF, hfn, hN, hL⟩
    by_cases hjk : j < k
    · have hap := fam_apart k HK.out j hjk
      rw [hFF, hL] at hap
      have t1 : decide (F ≤ o) = true := decide_eq_true (by have := HF'.out; omega)
      have t2 : decide ((o - F) % 256 < (L : Int)) = false := decide_eq_false (by have := HF'.out; omega)
      have t3 : decide (o - F < (L : Int)) = false := decide_eq_false (by have := HF'.out; omega)
      clear hap hFF hfn hN hL NL hs hw
      go_wp2
      refine ⟨⟨j + 1, by go_num, ⟨hjk⟩, ⟨hF.out.below (below_alloc (Below.refl _ _) _)⟩, ⟨hB.out.alloc (by have := hW.out.2; omega) _⟩, ⟨⟨((below_alloc (Below.refl _ _) _).block _ (by have := hW.out.2; omega)).trans hW.out.1, by have := hW.out.2; simp; omega⟩⟩⟩, by simp [intOf]; omega⟩
    · have e : j = k := by have := HJ.out; omega
      subst e
      have t1 : decide (F ≤ o) = true := decide_eq_true (by have := HF'.out; rw [hFF] at this; omega)
      have t2 : decide ((o - F) % 256 < (L : Int)) = true := decide_eq_true (by have := HF'.out; rw [hFF, hL] at this; omega)
      have t3 : decide (o - F < (L : Int)) = true := decide_eq_true (by have := HF'.out; rw [hFF, hL] at this; omega)
      have hFo : F ≤ o := of_decide_eq_true t1
      have hlt : w.heap.size < wr.heap.size := by omega
      have c0 := cell_of_block hblk 0
      have c1 := cell_of_block hblk 1
      have c2 := cell_of_block hblk 2
      have c3 := cell_of_block hblk 3
      simp at c0 c1 c2 c3
      have f0 := free_of_block hblk 0
      have f1 := free_of_block hblk 1
      have f2 := free_of_block hblk 2
      have f3 := free_of_block hblk 3
      have HBK := Aside0.mk hblk
      clear hblk hFF hfn hN hL NL hs hw
      go_wp2
      go_region
      go_wp2
      refine bodyPost_ret (v := .tuple #[.agg #[.int .u8 F, .func (.func fn) #[] #[], .slice A N c, .slice A' L c'], .int .i64 (o - F), .bool true]) (by simp [results, Tryd.results20, go_sem, hlt, c0, c1, c2, c3, f0, f1, f2, f3]) rfl ?_
      have hFF := EQ.out.1
      have hfn := EQ.out.2.1
      have hoi : o - F = i := by have := HF'.out.1; omega
      refine ⟨A, N, c, A', L, c', by rw [hFF, hfn, hoi], ?_, ?_, ?_⟩
      · refine HS.out.far HBK.out zero69_S (fun a ha hl => ?_)
        exact put4 _ _ _ _ _ _ _ a ha hl
      · refine HW.out.far HBK.out zero69_I (fun a ha hl => ?_)
        exact put4 _ _ _ _ _ _ _ a ha hl
      · exact below_drew (((((hB.out.setCell (Nat.le_refl _) _).setCell (Nat.le_refl _) _).setCell (Nat.le_refl _) _).setCell (Nat.le_refl _) _).alloc (by have := hB.out.size; simp; omega) _)

theorem fam_all : ∀ j, j < 18 → 1 ≤ (fam j).first ∧ (fam j).first + (fam j).words.length ≤ 69 := by decide
set_option maxHeartbeats 4000000 in
set_option maxRecDepth 100000 in
theorem of_no (o : Int) (h0 : 0 ≤ o) (h1 : o < 256) (ho : o = 0 ∨ 69 ≤ o) (w : World) : Calls Tryd.prog 20 #[.int .u8 o] w
    fun e w' => e = .returned (.tuple #[.agg #[.int .u8 0, .nilFunc, .slice none 0 0, .slice none 0 0], .int .i64 0, .bool false]) ∧ Below w.heap.size w w' := by
  have HO := Aside0.mk ho
  clear ho
  go_enter Tryd.func20, Tryd.ntmps20
  go_wp2_with fail
  refine (families_calls _).mono ?_
  rintro e w1 ⟨v, rfl, hF, hb⟩
  have hsz := hb.size
  have hz : w.heap.size + 1 ≤ w1.heap.size := by simpa using hsz
  have hblk := hb.block w.heap.size (by simp)
  have hblk2 : w1.heap[w.heap.size]? = some (.cells #[Value.int IntKind.u8 0, Value.nilFunc, Value.slice none 0 0, Value.slice none 0 0] 62 (0, 0)) := hblk.trans (by rw [show ∀ o, (w.alloc o).heap = w.heap.push o from fun _ => rfl]; exact Array.getElem?_push_size)
  clear hblk
  obtain ⟨g, rfl, hF2⟩ := hF
  have hF : Aside0 (FamsAt w1 (.slice (some ⟨g, 0, none⟩) 18 18)) := ⟨⟨g, rfl, hF2⟩⟩
  have hB : Aside0 (Below w.heap.size w w1) := ⟨((Below.refl _ _).alloc (Nat.le_refl _) _).trans (hb.mono (by simp))⟩
  have hW : Aside0 (w1.heap[w.heap.size]? = some (.cells #[Value.int IntKind.u8 0, Value.nilFunc, Value.slice none 0 0, Value.slice none 0 0] 62 (0, 0)) ∧ w.heap.size + 1 ≤ w1.heap.size) := ⟨hblk2, hz⟩
  clear hblk2 hz hsz hb hF2
  go_wp2
  go_loopw [9] (fun v9 wr => ∃ j : Nat, v9 = .int .i64 j ∧ Aside0 (j ≤ 18) ∧ Aside0 (FamsAt wr (.slice (some ⟨g, 0, none⟩) 18 18)) ∧ Aside0 (Below w.heap.size w wr) ∧ Aside0 (wr.heap[w.heap.size]? = some (.cells #[Value.int IntKind.u8 0, Value.nilFunc, Value.slice none 0 0, Value.slice none 0 0] 62 (0, 0)) ∧ w.heap.size + 1 ≤ wr.heap.size)) (fun v9 _ => 18 - (intOf v9).toNat)
  case atStart => exact ⟨0, rfl, ⟨Nat.zero_le _⟩, hF, hB, hW⟩
  case round =>
    clear hF hB hW
    obtain ⟨j, rfl, HJ, hF, hB, hW⟩ := hrel
    by_cases hj18 : j < 18
    · obtain ⟨A, c, A', c', h0, h1, h2, h3, hs, hw⟩ := hF.out.get j hj18
      have hglt := hF.out.lt
      obtain ⟨hblk, hz⟩ := hW.out
      obtain ⟨F0, F1, L0, L1, NL⟩ := fam_bounds j hj18
      obtain ⟨q0, q1⟩ := fam_all j hj18
      obtain ⟨F, hFF⟩ : ∃ F, (fam j).first = F := ⟨_, rfl⟩
      obtain ⟨fn, hfn⟩ : ∃ n, fnOf (fam j).form = n := ⟨_, rfl⟩
      obtain ⟨N, hN⟩ : ∃ n, (fam j).names.length = n := ⟨_, rfl⟩
      obtain ⟨L, hL⟩ : ∃ n, (fam j).words.length = n := ⟨_, rfl⟩
      rw [hFF] at h0 F0 F1 q0 q1
      rw [hfn] at h1
      rw [hN] at h2 NL hs
      rw [hL] at h3 L0 L1 NL hw q1
      clear hFF hfn hN hL NL hs hw
      rcases HO.out with rfl | hbig
      · have t1 : decide (F ≤ 0) = false := decide_eq_false (by omega)
        clear q1
        go_wp2
        refine ⟨⟨j + 1, by go_num, ⟨hj18⟩, ⟨hF.out.below (below_alloc (Below.refl _ _) _)⟩, ⟨hB.out.alloc (by have := hW.out.2; omega) _⟩, ⟨⟨((below_alloc (Below.refl _ _) _).block _ (by have := hW.out.2; omega)).trans hW.out.1, by have := hW.out.2; simp; omega⟩⟩⟩, by simp [intOf]; omega⟩
      · have t1 : decide (F ≤ o) = true := decide_eq_true (by omega)
        have t2 : decide ((o - F) % 256 < (L : Int)) = false := decide_eq_false (by omega)
        have t3 : decide (o - F < (L : Int)) = false := decide_eq_false (by omega)
        clear q1
        go_wp2
        refine ⟨⟨j + 1, by go_num, ⟨hj18⟩, ⟨hF.out.below (below_alloc (Below.refl _ _) _)⟩, ⟨hB.out.alloc (by have := hW.out.2; omega) _⟩, ⟨⟨((below_alloc (Below.refl _ _) _).block _ (by have := hW.out.2; omega)).trans hW.out.1, by have := hW.out.2; simp; omega⟩⟩⟩, by simp [intOf]; omega⟩
    · have e : j = 18 := by have := HJ.out; omega
      subst e
      obtain ⟨hblk, hz⟩ := hW.out
      have hlt : w.heap.size < wr.heap.size := by omega
      have c0 := cell_of_block hblk 0
      have c1 := cell_of_block hblk 1
      have c2 := cell_of_block hblk 2
      have c3 := cell_of_block hblk 3
      simp at c0 c1 c2 c3
      have f0 := free_of_block hblk 0
      have f1 := free_of_block hblk 1
      have f2 := free_of_block hblk 2
      have f3 := free_of_block hblk 3
      clear hblk
      go_wp2
      refine bodyPost_ret (v := .tuple #[.agg #[.int .u8 0, .nilFunc, .slice none 0 0, .slice none 0 0], .int .i64 0, .bool false]) (by simp [results, Tryd.results20, go_sem, hlt, c0, c1, c2, c3, f0, f1, f2, f3]) rfl ⟨rfl, ?_⟩
      first
      | exact ((((hB.out.setCell (Nat.le_refl _) _).setCell (Nat.le_refl _) _).setCell (Nat.le_refl _) _).setCell (Nat.le_refl _) _)
      | exact below_drew ((((hB.out.setCell (Nat.le_refl _) _).setCell (Nat.le_refl _) _).setCell (Nat.le_refl _) _).setCell (Nat.le_refl _) _)
end Go.Proofs.YtchkjfokoenlnaaDoor.Ins
