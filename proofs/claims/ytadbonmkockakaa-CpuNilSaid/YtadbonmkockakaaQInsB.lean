/- The families of instructions: what instr.families hands back. No condition. -/
import Derived.Test.YtadbonmkockakaaQInsA
import Derived.Test.YtadbonmkockakaaQInsF
namespace Go.Proofs.Ytadbonmkockakaa.Ins
open Go.RowKit Go.Proofs.YtadbonmkockakaaW.PrintWords Go.Proofs.YtadbonmkockakaaW.PrintLast Go.Proofs.Ytadbonmkockakaa.Alu Go.Proofs.Ytadbonmkockakaa.InsP
set_option linter.unusedVariables false
set_option linter.unusedSimpArgs false
/-- A family of instructions: the first one, its form, names, words. -/
structure Fam where
  first : Int
  form : Nat
  names : List ByteArray
  words : List Int
/-- The function of a form. -/
def fnOf (n : Nat) : Nat := ([48, 49, 50, 51, 53, 54, 56, 57, 58, 60] : List Nat).getD n 0
def fams : List Fam := [
  ⟨1, 0, [⟨#[108, 117, 105]⟩, ⟨#[97, 117, 105, 112, 99, 99]⟩], [55, 23]⟩,
  ⟨3, 1, [⟨#[99, 106, 97, 108]⟩], [111]⟩,
  ⟨4, 2, [⟨#[99, 106, 97, 108, 114]⟩], [103]⟩,
  ⟨5, 3, [⟨#[98, 101, 113]⟩, ⟨#[98, 110, 101]⟩, ⟨#[98, 108, 116]⟩, ⟨#[98, 103, 101]⟩, ⟨#[98, 108, 116, 117]⟩, ⟨#[98, 103, 101, 117]⟩], [99, 4195, 16483, 20579, 24675, 28771]⟩,
  ⟨11, 2, [⟨#[108, 98]⟩, ⟨#[108, 104]⟩, ⟨#[108, 119]⟩, ⟨#[99, 108, 99]⟩, ⟨#[108, 98, 117]⟩, ⟨#[108, 104, 117]⟩], [3, 4099, 8195, 12291, 16387, 20483]⟩,
  ⟨17, 4, [⟨#[115, 98]⟩, ⟨#[115, 104]⟩, ⟨#[115, 119]⟩, ⟨#[99, 115, 99]⟩], [35, 4131, 8227, 12323]⟩,
  ⟨21, 2, [⟨#[97, 100, 100, 105]⟩, ⟨#[115, 108, 116, 105]⟩, ⟨#[115, 108, 116, 105, 117]⟩, ⟨#[120, 111, 114, 105]⟩, ⟨#[111, 114, 105]⟩, ⟨#[97, 110, 100, 105]⟩], [19, 8211, 12307, 16403, 24595, 28691]⟩,
  ⟨27, 5, [⟨#[115, 108, 108, 105]⟩, ⟨#[115, 114, 108, 105]⟩, ⟨#[115, 114, 97, 105]⟩], [4115, 20499, 1073762323]⟩,
  ⟨30, 6, [⟨#[97, 100, 100]⟩, ⟨#[115, 117, 98]⟩, ⟨#[115, 108, 108]⟩, ⟨#[115, 108, 116]⟩, ⟨#[115, 108, 116, 117]⟩, ⟨#[120, 111, 114]⟩, ⟨#[115, 114, 108]⟩, ⟨#[115, 114, 97]⟩, ⟨#[111, 114]⟩, ⟨#[97, 110, 100]⟩], [51, 1073741875, 4147, 8243, 12339, 16435, 20531, 1073762355, 24627, 28723]⟩,
  ⟨40, 6, [⟨#[109, 117, 108]⟩, ⟨#[109, 117, 108, 104]⟩, ⟨#[109, 117, 108, 104, 115, 117]⟩, ⟨#[109, 117, 108, 104, 117]⟩, ⟨#[100, 105, 118]⟩, ⟨#[100, 105, 118, 117]⟩, ⟨#[114, 101, 109]⟩, ⟨#[114, 101, 109, 117]⟩], [33554483, 33558579, 33562675, 33566771, 33570867, 33574963, 33579059, 33583155]⟩,
  ⟨48, 2, [⟨#[99, 46, 105, 110, 99, 97, 100, 100, 114, 105, 109, 109]⟩], [4187]⟩,
  ⟨49, 7, [⟨#[99, 46, 115, 101, 116, 98, 111, 117, 110, 100, 115, 105, 109, 109]⟩], [8283]⟩,
  ⟨50, 6, [⟨#[99, 46, 115, 101, 116, 98, 111, 117, 110, 100, 115]⟩, ⟨#[99, 46, 115, 101, 97, 108]⟩], [268435547, 369098843]⟩,
  ⟨52, 8, [⟨#[99, 46, 117, 110, 115, 101, 97, 108]⟩], [402653275]⟩,
  ⟨53, 6, [⟨#[99, 46, 97, 110, 100, 112, 101, 114, 109]⟩, ⟨#[99, 46, 115, 101, 116, 97, 100, 100, 114]⟩, ⟨#[99, 46, 105, 110, 99, 97, 100, 100, 114]⟩, ⟨#[99, 46, 116, 101, 115, 116, 115, 117, 98, 115, 101, 116]⟩], [436207707, 536871003, 570425435, 1073741915]⟩,
  ⟨57, 8, [⟨#[99, 46, 103, 101, 116, 112, 101, 114, 109]⟩, ⟨#[99, 46, 103, 101, 116, 116, 121, 112, 101]⟩, ⟨#[99, 46, 103, 101, 116, 98, 97, 115, 101]⟩, ⟨#[99, 46, 103, 101, 116, 108, 101, 110]⟩, ⟨#[99, 46, 103, 101, 116, 116, 97, 103]⟩, ⟨#[99, 46, 109, 111, 118, 101]⟩, ⟨#[99, 46, 99, 108, 101, 97, 114, 116, 97, 103]⟩, ⟨#[99, 46, 103, 101, 116, 97, 100, 100, 114]⟩, ⟨#[99, 46, 115, 101, 110, 116, 114, 121]⟩], [4261412955, 4262461531, 4263510107, 4264558683, 4265607259, 4271898715, 4272947291, 4277141595, 4279238747]⟩,
  ⟨66, 5, [⟨#[99, 46, 115, 112, 101, 99, 105, 97, 108, 114, 119]⟩], [33554523]⟩,
  ⟨67, 9, [⟨#[101, 99, 97, 108, 108]⟩, ⟨#[109, 114, 101, 116]⟩], [115, 807403635]⟩]
def fam (k : Nat) : Fam := fams.getD k ⟨0, 0, [], []⟩

def RowS (w : World) (v : Value) (xs : List ByteArray) : Prop := ∃ A c, v = .slice A xs.length c ∧ Kd.C Kd.string w A xs.length xs
def RowI (w : World) (v : Value) (xs : List Int) : Prop := ∃ A c, v = .slice A xs.length c ∧ Kd.C (Kd.int .u32) w A xs.length xs
theorem RowS.below {w w1 : World} {v : Value} {xs : List ByteArray} (h : RowS w v xs) (hb : Below w.heap.size w w1) : RowS w1 v xs := by
  obtain ⟨A, c, e, hc⟩ := h; exact ⟨A, c, e, Kd.C_below hc hb⟩
theorem RowI.below {w w1 : World} {v : Value} {xs : List Int} (h : RowI w v xs) (hb : Below w.heap.size w w1) : RowI w1 v xs := by
  obtain ⟨A, c, e, hc⟩ := h; exact ⟨A, c, e, Kd.C_below hc hb⟩
/-- A slice of strings, or of words, that reads as it is told. -/
inductive Told where
  | strs (v : Value) (xs : List ByteArray)
  | words (v : Value) (xs : List Int)
def Told.holds (w : World) : Told → Prop
  | .strs v xs => RowS w v xs
  | .words v xs => RowI w v xs
def AllTold (w : World) (l : List Told) : Prop := ∀ t, t ∈ l → t.holds w
theorem AllTold.below {w w1 : World} {l : List Told} (h : AllTold w l) (hb : Below w.heap.size w w1) : AllTold w1 l := by
  intro t ht
  have := h t ht
  cases t with
  | strs v xs => exact RowS.below this hb
  | words v xs => exact RowI.below this hb
theorem AllTold.cons {w : World} {t : Told} {l : List Told} (ht : t.holds w) (h : AllTold w l) : AllTold w (t :: l) := by
  intro x hx
  rcases List.mem_cons.1 hx with rfl | hx
  · exact ht
  · exact h x hx
theorem AllTold.nil (w : World) : AllTold w [] := fun _ h => by cases h
theorem lit_words (w : World) (xs : List Int) (hl : xs.length ≤ 9223372036854775807) : RowI (w.alloc (.cells (xs.map fun x => Value.int .u32 x).toArray 22)) (.slice (some ⟨w.heap.size, 0, none⟩) xs.length xs.length) xs := by
  refine ⟨_, _, rfl, Kd.C_of_reads (d := 0) ⟨rfl, hl, fun hn => ⟨_, rfl, fun j hj => ?_⟩⟩⟩
  rw [add_plain]
  simp [go_sem, hj]
theorem lit_strs (w : World) (xs : List ByteArray) (hl : xs.length ≤ 9223372036854775807) : RowS (w.alloc (.cells (xs.map fun x => Value.string x).toArray 9)) (.slice (some ⟨w.heap.size, 0, none⟩) xs.length xs.length) xs := by
  refine ⟨_, _, rfl, Kd.C_of_reads (d := ByteArray.empty) ⟨rfl, hl, fun hn => ⟨_, rfl, fun j hj => ?_⟩⟩⟩
  rw [add_plain]
  simp [go_sem, hj]
theorem f3_row (code : Int) (xs ws : List Int) (g : Nat) (W : World) (hC : RowI W (.slice (some ⟨g, 0, none⟩) xs.length xs.length) xs) (hf : instr_f3.f 30 code xs = some ws) (n : Nat) (hn : ws.length = n) :
    Calls Try.prog 52 #[.int .u32 code, .slice (some ⟨g, 0, none⟩) xs.length xs.length] W fun e w' => ∃ A c, e = .returned (.slice A n c) ∧ RowI w' (.slice A n c) ws ∧ Below W.heap.size W w' := by
  subst hn
  obtain ⟨A, c, e, hC⟩ := hC
  obtain ⟨rfl, _, rfl⟩ : some ⟨g, 0, none⟩ = A ∧ xs.length = xs.length ∧ xs.length = c := by simpa using e
  refine (instr_f3.calls 30 code _ _ xs ws W hC (Nat.le_refl _) hf).mono ?_
  rintro e w' ⟨v, he, hr, hb⟩
  obtain ⟨A, c, hv, _, hC⟩ := Kd.R_reads hr
  subst hv
  exact ⟨A, c, he, ⟨A, c, rfl, hC⟩, hb⟩
theorem f7_row (code : Int) (xs ws : List Int) (g : Nat) (W : World) (hC : RowI W (.slice (some ⟨g, 0, none⟩) xs.length xs.length) xs) (hf : instr_f7.f 30 code xs = some ws) (n : Nat) (hn : ws.length = n) :
    Calls Try.prog 55 #[.int .u32 code, .slice (some ⟨g, 0, none⟩) xs.length xs.length] W fun e w' => ∃ A c, e = .returned (.slice A n c) ∧ RowI w' (.slice A n c) ws ∧ Below W.heap.size W w' := by
  subst hn
  obtain ⟨A, c, e, hC⟩ := hC
  obtain ⟨rfl, _, rfl⟩ : some ⟨g, 0, none⟩ = A ∧ xs.length = xs.length ∧ xs.length = c := by simpa using e
  refine (instr_f7.calls 30 code _ _ xs ws W hC (Nat.le_refl _) hf).mono ?_
  rintro e w' ⟨v, he, hr, hb⟩
  obtain ⟨A, c, hv, _, hC⟩ := Kd.R_reads hr
  subst hv
  exact ⟨A, c, he, ⟨A, c, rfl, hC⟩, hb⟩
theorem source_row (xs ws : List Int) (g : Nat) (W : World) (hC : RowI W (.slice (some ⟨g, 0, none⟩) xs.length xs.length) xs) (hf : instr_source.f 30 xs = some ws) (n : Nat) (hn : ws.length = n) :
    Calls Try.prog 59 #[.slice (some ⟨g, 0, none⟩) xs.length xs.length] W fun e w' => ∃ A c, e = .returned (.slice A n c) ∧ RowI w' (.slice A n c) ws ∧ Below W.heap.size W w' := by
  subst hn
  obtain ⟨A, c, e, hC⟩ := hC
  obtain ⟨rfl, _, rfl⟩ : some ⟨g, 0, none⟩ = A ∧ xs.length = xs.length ∧ xs.length = c := by simpa using e
  refine (instr_source.calls 30 _ _ xs ws W hC (Nat.le_refl _) hf).mono ?_
  rintro e w' ⟨v, he, hr, hb⟩
  obtain ⟨A, c, hv, _, hC⟩ := Kd.R_reads hr
  subst hv
  exact ⟨A, c, he, ⟨A, c, rfl, hC⟩, hb⟩

theorem World.heap_size_alloc_ (w : World) (o : Obj) : (w.alloc o).heap.size = w.heap.size + 1 := by simp
/-- What the cells of the families are, in this world, in the block g. -/
def FamsAt (w : World) (v : Value) : Prop := ∃ g, v = .slice (some ⟨g, 0, none⟩) 18 18 ∧ ∀ k, k < 18 → ∃ nv wv, w.cell? ⟨g, 4 * k, none⟩ = some (.int .u8 (fam k).first) ∧ w.cell? ⟨g, 4 * k + 1, none⟩ = some (.func (.func (fnOf (fam k).form)) #[] #[])
    ∧ w.cell? ⟨g, 4 * k + 2, none⟩ = some nv ∧ w.cell? ⟨g, 4 * k + 3, none⟩ = some wv ∧ RowS w nv (fam k).names ∧ RowI w wv (fam k).words
set_option maxHeartbeats 8000000 in
set_option maxRecDepth 100000 in
theorem families_calls (w : World) : Calls Try.prog 31 #[] w fun e w' => ∃ v, e = .returned v ∧ FamsAt w' v ∧ Below w.heap.size w w' := by
  have hT0 := Aside0.mk (AllTold.nil w)
  have hB0 : Aside0 (Below w.heap.size w w) := ⟨Below.refl _ _⟩
  go_enter Try.func31, Try.ntmps31
  go_wp2_with fail
  have hA : RowS (w.alloc (Obj.cells #[Value.string (⟨#[108, 117, 105]⟩ : ByteArray), Value.string (⟨#[97, 117, 105, 112, 99, 99]⟩ : ByteArray)] 9)) (.slice (some ⟨w.heap.size, 0, none⟩) 2 2) [⟨#[108, 117, 105]⟩, ⟨#[97, 117, 105, 112, 99, 99]⟩] := by
    have h := lit_strs w [⟨#[108, 117, 105]⟩, ⟨#[97, 117, 105, 112, 99, 99]⟩] (by decide)
    simp only [World.heap_size_alloc_, List.length_cons, List.length_nil, Nat.zero_add, Nat.reduceAdd, List.map_cons, List.map_nil] at h
    exact h
  have HA := Aside0.mk hA
  clear hA
  have hT1 := Aside0.mk (AllTold.cons (t := Told.strs _ _) HA.out (hT0.out.below (below_alloc (Below.refl _ _) _)))
  clear hT0
  have hT0 := hT1
  clear hT1
  clear HA
  have hA : RowI ((w.alloc (Obj.cells #[Value.string (⟨#[108, 117, 105]⟩ : ByteArray), Value.string (⟨#[97, 117, 105, 112, 99, 99]⟩ : ByteArray)] 9)).alloc (Obj.cells #[Value.int IntKind.u32 55, Value.int IntKind.u32 23] 22)) (.slice (some ⟨w.heap.size + 1, 0, none⟩) 2 2) [55, 23] := by
    have h := lit_words (w.alloc (Obj.cells #[Value.string (⟨#[108, 117, 105]⟩ : ByteArray), Value.string (⟨#[97, 117, 105, 112, 99, 99]⟩ : ByteArray)] 9)) [55, 23] (by decide)
    simp only [World.heap_size_alloc_, List.length_cons, List.length_nil, Nat.zero_add, Nat.reduceAdd, List.map_cons, List.map_nil] at h
    exact h
  have HA := Aside0.mk hA
  clear hA
  have hT1 := Aside0.mk (AllTold.cons (t := Told.words _ _) HA.out (hT0.out.below (below_alloc (Below.refl _ _) _)))
  clear hT0
  have hT0 := hT1
  clear hT1
  clear HA
  have hA : RowS (((w.alloc (Obj.cells #[Value.string (⟨#[108, 117, 105]⟩ : ByteArray), Value.string (⟨#[97, 117, 105, 112, 99, 99]⟩ : ByteArray)] 9)).alloc (Obj.cells #[Value.int IntKind.u32 55, Value.int IntKind.u32 23] 22)).alloc (Obj.cells #[Value.string (⟨#[99, 106, 97, 108]⟩ : ByteArray)] 9)) (.slice (some ⟨w.heap.size + 1 + 1, 0, none⟩) 1 1) [⟨#[99, 106, 97, 108]⟩] := by
    have h := lit_strs ((w.alloc (Obj.cells #[Value.string (⟨#[108, 117, 105]⟩ : ByteArray), Value.string (⟨#[97, 117, 105, 112, 99, 99]⟩ : ByteArray)] 9)).alloc (Obj.cells #[Value.int IntKind.u32 55, Value.int IntKind.u32 23] 22)) [⟨#[99, 106, 97, 108]⟩] (by decide)
    simp only [World.heap_size_alloc_, List.length_cons, List.length_nil, Nat.zero_add, Nat.reduceAdd, List.map_cons, List.map_nil] at h
    exact h
  have HA := Aside0.mk hA
  clear hA
  have hT1 := Aside0.mk (AllTold.cons (t := Told.strs _ _) HA.out (hT0.out.below (below_alloc (Below.refl _ _) _)))
  clear hT0
  have hT0 := hT1
  clear hT1
  clear HA
  have hA : RowI ((((w.alloc (Obj.cells #[Value.string (⟨#[108, 117, 105]⟩ : ByteArray), Value.string (⟨#[97, 117, 105, 112, 99, 99]⟩ : ByteArray)] 9)).alloc (Obj.cells #[Value.int IntKind.u32 55, Value.int IntKind.u32 23] 22)).alloc (Obj.cells #[Value.string (⟨#[99, 106, 97, 108]⟩ : ByteArray)] 9)).alloc (Obj.cells #[Value.int IntKind.u32 111] 22)) (.slice (some ⟨w.heap.size + 1 + 1 + 1, 0, none⟩) 1 1) [111] := by
    have h := lit_words (((w.alloc (Obj.cells #[Value.string (⟨#[108, 117, 105]⟩ : ByteArray), Value.string (⟨#[97, 117, 105, 112, 99, 99]⟩ : ByteArray)] 9)).alloc (Obj.cells #[Value.int IntKind.u32 55, Value.int IntKind.u32 23] 22)).alloc (Obj.cells #[Value.string (⟨#[99, 106, 97, 108]⟩ : ByteArray)] 9)) [111] (by decide)
    simp only [World.heap_size_alloc_, List.length_cons, List.length_nil, Nat.zero_add, Nat.reduceAdd, List.map_cons, List.map_nil] at h
    exact h
  have HA := Aside0.mk hA
  clear hA
  have hT1 := Aside0.mk (AllTold.cons (t := Told.words _ _) HA.out (hT0.out.below (below_alloc (Below.refl _ _) _)))
  clear hT0
  have hT0 := hT1
  clear hT1
  clear HA
  have hA : RowS (((((w.alloc (Obj.cells #[Value.string (⟨#[108, 117, 105]⟩ : ByteArray), Value.string (⟨#[97, 117, 105, 112, 99, 99]⟩ : ByteArray)] 9)).alloc (Obj.cells #[Value.int IntKind.u32 55, Value.int IntKind.u32 23] 22)).alloc (Obj.cells #[Value.string (⟨#[99, 106, 97, 108]⟩ : ByteArray)] 9)).alloc (Obj.cells #[Value.int IntKind.u32 111] 22)).alloc (Obj.cells #[Value.string (⟨#[99, 106, 97, 108, 114]⟩ : ByteArray)] 9)) (.slice (some ⟨w.heap.size + 1 + 1 + 1 + 1, 0, none⟩) 1 1) [⟨#[99, 106, 97, 108, 114]⟩] := by
    have h := lit_strs ((((w.alloc (Obj.cells #[Value.string (⟨#[108, 117, 105]⟩ : ByteArray), Value.string (⟨#[97, 117, 105, 112, 99, 99]⟩ : ByteArray)] 9)).alloc (Obj.cells #[Value.int IntKind.u32 55, Value.int IntKind.u32 23] 22)).alloc (Obj.cells #[Value.string (⟨#[99, 106, 97, 108]⟩ : ByteArray)] 9)).alloc (Obj.cells #[Value.int IntKind.u32 111] 22)) [⟨#[99, 106, 97, 108, 114]⟩] (by decide)
    simp only [World.heap_size_alloc_, List.length_cons, List.length_nil, Nat.zero_add, Nat.reduceAdd, List.map_cons, List.map_nil] at h
    exact h
  have HA := Aside0.mk hA
  clear hA
  have hT1 := Aside0.mk (AllTold.cons (t := Told.strs _ _) HA.out (hT0.out.below (below_alloc (Below.refl _ _) _)))
  clear hT0
  have hT0 := hT1
  clear hT1
  clear HA
  have hA : RowI ((((((w.alloc (Obj.cells #[Value.string (⟨#[108, 117, 105]⟩ : ByteArray), Value.string (⟨#[97, 117, 105, 112, 99, 99]⟩ : ByteArray)] 9)).alloc (Obj.cells #[Value.int IntKind.u32 55, Value.int IntKind.u32 23] 22)).alloc (Obj.cells #[Value.string (⟨#[99, 106, 97, 108]⟩ : ByteArray)] 9)).alloc (Obj.cells #[Value.int IntKind.u32 111] 22)).alloc (Obj.cells #[Value.string (⟨#[99, 106, 97, 108, 114]⟩ : ByteArray)] 9)).alloc (Obj.cells #[Value.int IntKind.u32 103] 22)) (.slice (some ⟨w.heap.size + 1 + 1 + 1 + 1 + 1, 0, none⟩) 1 1) [103] := by
    have h := lit_words (((((w.alloc (Obj.cells #[Value.string (⟨#[108, 117, 105]⟩ : ByteArray), Value.string (⟨#[97, 117, 105, 112, 99, 99]⟩ : ByteArray)] 9)).alloc (Obj.cells #[Value.int IntKind.u32 55, Value.int IntKind.u32 23] 22)).alloc (Obj.cells #[Value.string (⟨#[99, 106, 97, 108]⟩ : ByteArray)] 9)).alloc (Obj.cells #[Value.int IntKind.u32 111] 22)).alloc (Obj.cells #[Value.string (⟨#[99, 106, 97, 108, 114]⟩ : ByteArray)] 9)) [103] (by decide)
    simp only [World.heap_size_alloc_, List.length_cons, List.length_nil, Nat.zero_add, Nat.reduceAdd, List.map_cons, List.map_nil] at h
    exact h
  have HA := Aside0.mk hA
  clear hA
  have hT1 := Aside0.mk (AllTold.cons (t := Told.words _ _) HA.out (hT0.out.below (below_alloc (Below.refl _ _) _)))
  clear hT0
  have hT0 := hT1
  clear hT1
  clear HA
  have hA : RowS (((((((w.alloc (Obj.cells #[Value.string (⟨#[108, 117, 105]⟩ : ByteArray), Value.string (⟨#[97, 117, 105, 112, 99, 99]⟩ : ByteArray)] 9)).alloc (Obj.cells #[Value.int IntKind.u32 55, Value.int IntKind.u32 23] 22)).alloc (Obj.cells #[Value.string (⟨#[99, 106, 97, 108]⟩ : ByteArray)] 9)).alloc (Obj.cells #[Value.int IntKind.u32 111] 22)).alloc (Obj.cells #[Value.string (⟨#[99, 106, 97, 108, 114]⟩ : ByteArray)] 9)).alloc (Obj.cells #[Value.int IntKind.u32 103] 22)).alloc (Obj.cells #[Value.string (⟨#[98, 101, 113]⟩ : ByteArray), Value.string (⟨#[98, 110, 101]⟩ : ByteArray), Value.string (⟨#[98, 108, 116]⟩ : ByteArray), Value.string (⟨#[98, 103, 101]⟩ : ByteArray), Value.string (⟨#[98, 108, 116, 117]⟩ : ByteArray), Value.string (⟨#[98, 103, 101, 117]⟩ : ByteArray)] 9)) (.slice (some ⟨w.heap.size + 1 + 1 + 1 + 1 + 1 + 1, 0, none⟩) 6 6) [⟨#[98, 101, 113]⟩, ⟨#[98, 110, 101]⟩, ⟨#[98, 108, 116]⟩, ⟨#[98, 103, 101]⟩, ⟨#[98, 108, 116, 117]⟩, ⟨#[98, 103, 101, 117]⟩] := by
    have h := lit_strs ((((((w.alloc (Obj.cells #[Value.string (⟨#[108, 117, 105]⟩ : ByteArray), Value.string (⟨#[97, 117, 105, 112, 99, 99]⟩ : ByteArray)] 9)).alloc (Obj.cells #[Value.int IntKind.u32 55, Value.int IntKind.u32 23] 22)).alloc (Obj.cells #[Value.string (⟨#[99, 106, 97, 108]⟩ : ByteArray)] 9)).alloc (Obj.cells #[Value.int IntKind.u32 111] 22)).alloc (Obj.cells #[Value.string (⟨#[99, 106, 97, 108, 114]⟩ : ByteArray)] 9)).alloc (Obj.cells #[Value.int IntKind.u32 103] 22)) [⟨#[98, 101, 113]⟩, ⟨#[98, 110, 101]⟩, ⟨#[98, 108, 116]⟩, ⟨#[98, 103, 101]⟩, ⟨#[98, 108, 116, 117]⟩, ⟨#[98, 103, 101, 117]⟩] (by decide)
    simp only [World.heap_size_alloc_, List.length_cons, List.length_nil, Nat.zero_add, Nat.reduceAdd, List.map_cons, List.map_nil] at h
    exact h
  have HA := Aside0.mk hA
  clear hA
  have hT1 := Aside0.mk (AllTold.cons (t := Told.strs _ _) HA.out (hT0.out.below (below_alloc (Below.refl _ _) _)))
  clear hT0
  have hT0 := hT1
  clear hT1
  clear HA
  have hA : RowI ((((((((w.alloc (Obj.cells #[Value.string (⟨#[108, 117, 105]⟩ : ByteArray), Value.string (⟨#[97, 117, 105, 112, 99, 99]⟩ : ByteArray)] 9)).alloc (Obj.cells #[Value.int IntKind.u32 55, Value.int IntKind.u32 23] 22)).alloc (Obj.cells #[Value.string (⟨#[99, 106, 97, 108]⟩ : ByteArray)] 9)).alloc (Obj.cells #[Value.int IntKind.u32 111] 22)).alloc (Obj.cells #[Value.string (⟨#[99, 106, 97, 108, 114]⟩ : ByteArray)] 9)).alloc (Obj.cells #[Value.int IntKind.u32 103] 22)).alloc (Obj.cells #[Value.string (⟨#[98, 101, 113]⟩ : ByteArray), Value.string (⟨#[98, 110, 101]⟩ : ByteArray), Value.string (⟨#[98, 108, 116]⟩ : ByteArray), Value.string (⟨#[98, 103, 101]⟩ : ByteArray), Value.string (⟨#[98, 108, 116, 117]⟩ : ByteArray), Value.string (⟨#[98, 103, 101, 117]⟩ : ByteArray)] 9)).alloc (Obj.cells #[Value.int IntKind.u32 0, Value.int IntKind.u32 1, Value.int IntKind.u32 4, Value.int IntKind.u32 5, Value.int IntKind.u32 6, Value.int IntKind.u32 7] 22)) (.slice (some ⟨w.heap.size + 1 + 1 + 1 + 1 + 1 + 1 + 1, 0, none⟩) 6 6) [0, 1, 4, 5, 6, 7] := by
    have h := lit_words (((((((w.alloc (Obj.cells #[Value.string (⟨#[108, 117, 105]⟩ : ByteArray), Value.string (⟨#[97, 117, 105, 112, 99, 99]⟩ : ByteArray)] 9)).alloc (Obj.cells #[Value.int IntKind.u32 55, Value.int IntKind.u32 23] 22)).alloc (Obj.cells #[Value.string (⟨#[99, 106, 97, 108]⟩ : ByteArray)] 9)).alloc (Obj.cells #[Value.int IntKind.u32 111] 22)).alloc (Obj.cells #[Value.string (⟨#[99, 106, 97, 108, 114]⟩ : ByteArray)] 9)).alloc (Obj.cells #[Value.int IntKind.u32 103] 22)).alloc (Obj.cells #[Value.string (⟨#[98, 101, 113]⟩ : ByteArray), Value.string (⟨#[98, 110, 101]⟩ : ByteArray), Value.string (⟨#[98, 108, 116]⟩ : ByteArray), Value.string (⟨#[98, 103, 101]⟩ : ByteArray), Value.string (⟨#[98, 108, 116, 117]⟩ : ByteArray), Value.string (⟨#[98, 103, 101, 117]⟩ : ByteArray)] 9)) [0, 1, 4, 5, 6, 7] (by decide)
    simp only [World.heap_size_alloc_, List.length_cons, List.length_nil, Nat.zero_add, Nat.reduceAdd, List.map_cons, List.map_nil] at h
    exact h
  have HA := Aside0.mk hA
  clear hA
  have hT1 := Aside0.mk (AllTold.cons (t := Told.words _ _) HA.out (hT0.out.below (below_alloc (Below.refl _ _) _)))
  clear hT0
  have hT0 := hT1
  clear hT1
  have hc := f3_row 99 [0, 1, 4, 5, 6, 7] [99, 4195, 16483, 20579, 24675, 28771] _ _ HA.out (by decide +kernel) 6 rfl
  simp only [List.length_cons, List.length_nil, Nat.zero_add, Nat.reduceAdd] at hc
  refine hc.mono ?_
  clear hc HA
  rintro e w1 ⟨A1, c1, rfl, hr, hb⟩
  have hT1 := Aside0.mk (AllTold.cons (t := Told.words (.slice A1 6 c1) [99, 4195, 16483, 20579, 24675, 28771]) hr (hT0.out.below hb))
  clear hT0
  have hT0 := hT1
  clear hT1
  have hB1 := Aside0.mk (((((((((hB0.out.alloc (by have := hB0.out.size; (try simp only [World.heap_size_alloc_]); omega) _).alloc (by have := hB0.out.size; (try simp only [World.heap_size_alloc_]); omega) _).alloc (by have := hB0.out.size; (try simp only [World.heap_size_alloc_]); omega) _).alloc (by have := hB0.out.size; (try simp only [World.heap_size_alloc_]); omega) _).alloc (by have := hB0.out.size; (try simp only [World.heap_size_alloc_]); omega) _).alloc (by have := hB0.out.size; (try simp only [World.heap_size_alloc_]); omega) _).alloc (by have := hB0.out.size; (try simp only [World.heap_size_alloc_]); omega) _).alloc (by have := hB0.out.size; (try simp only [World.heap_size_alloc_]); omega) _).trans (hb.mono (by have := hB0.out.size; (try simp only [World.heap_size_alloc_]); omega)))
  clear hB0
  have hB0 := hB1
  clear hB1
  clear hr hb
  go_wp2_with fail
  have hA : RowS (w1.alloc (Obj.cells #[Value.string (⟨#[108, 98]⟩ : ByteArray), Value.string (⟨#[108, 104]⟩ : ByteArray), Value.string (⟨#[108, 119]⟩ : ByteArray), Value.string (⟨#[99, 108, 99]⟩ : ByteArray), Value.string (⟨#[108, 98, 117]⟩ : ByteArray), Value.string (⟨#[108, 104, 117]⟩ : ByteArray)] 9)) (.slice (some ⟨w1.heap.size, 0, none⟩) 6 6) [⟨#[108, 98]⟩, ⟨#[108, 104]⟩, ⟨#[108, 119]⟩, ⟨#[99, 108, 99]⟩, ⟨#[108, 98, 117]⟩, ⟨#[108, 104, 117]⟩] := by
    have h := lit_strs w1 [⟨#[108, 98]⟩, ⟨#[108, 104]⟩, ⟨#[108, 119]⟩, ⟨#[99, 108, 99]⟩, ⟨#[108, 98, 117]⟩, ⟨#[108, 104, 117]⟩] (by decide)
    simp only [World.heap_size_alloc_, List.length_cons, List.length_nil, Nat.zero_add, Nat.reduceAdd, List.map_cons, List.map_nil] at h
    exact h
  have HA := Aside0.mk hA
  clear hA
  have hT1 := Aside0.mk (AllTold.cons (t := Told.strs _ _) HA.out (hT0.out.below (below_alloc (Below.refl _ _) _)))
  clear hT0
  have hT0 := hT1
  clear hT1
  clear HA
  have hA : RowI ((w1.alloc (Obj.cells #[Value.string (⟨#[108, 98]⟩ : ByteArray), Value.string (⟨#[108, 104]⟩ : ByteArray), Value.string (⟨#[108, 119]⟩ : ByteArray), Value.string (⟨#[99, 108, 99]⟩ : ByteArray), Value.string (⟨#[108, 98, 117]⟩ : ByteArray), Value.string (⟨#[108, 104, 117]⟩ : ByteArray)] 9)).alloc (Obj.cells #[Value.int IntKind.u32 0, Value.int IntKind.u32 1, Value.int IntKind.u32 2, Value.int IntKind.u32 3, Value.int IntKind.u32 4, Value.int IntKind.u32 5] 22)) (.slice (some ⟨w1.heap.size + 1, 0, none⟩) 6 6) [0, 1, 2, 3, 4, 5] := by
    have h := lit_words (w1.alloc (Obj.cells #[Value.string (⟨#[108, 98]⟩ : ByteArray), Value.string (⟨#[108, 104]⟩ : ByteArray), Value.string (⟨#[108, 119]⟩ : ByteArray), Value.string (⟨#[99, 108, 99]⟩ : ByteArray), Value.string (⟨#[108, 98, 117]⟩ : ByteArray), Value.string (⟨#[108, 104, 117]⟩ : ByteArray)] 9)) [0, 1, 2, 3, 4, 5] (by decide)
    simp only [World.heap_size_alloc_, List.length_cons, List.length_nil, Nat.zero_add, Nat.reduceAdd, List.map_cons, List.map_nil] at h
    exact h
  have HA := Aside0.mk hA
  clear hA
  have hT1 := Aside0.mk (AllTold.cons (t := Told.words _ _) HA.out (hT0.out.below (below_alloc (Below.refl _ _) _)))
  clear hT0
  have hT0 := hT1
  clear hT1
  have hc := f3_row 3 [0, 1, 2, 3, 4, 5] [3, 4099, 8195, 12291, 16387, 20483] _ _ HA.out (by decide +kernel) 6 rfl
  simp only [List.length_cons, List.length_nil, Nat.zero_add, Nat.reduceAdd] at hc
  refine hc.mono ?_
  clear hc HA
  rintro e w2 ⟨A2, c2, rfl, hr, hb⟩
  have hT1 := Aside0.mk (AllTold.cons (t := Told.words (.slice A2 6 c2) [3, 4099, 8195, 12291, 16387, 20483]) hr (hT0.out.below hb))
  clear hT0
  have hT0 := hT1
  clear hT1
  have hB1 := Aside0.mk (((hB0.out.alloc (by have := hB0.out.size; (try simp only [World.heap_size_alloc_]); omega) _).alloc (by have := hB0.out.size; (try simp only [World.heap_size_alloc_]); omega) _).trans (hb.mono (by have := hB0.out.size; (try simp only [World.heap_size_alloc_]); omega)))
  clear hB0
  have hB0 := hB1
  clear hB1
  clear hr hb
  go_wp2_with fail
  have hA : RowS (w2.alloc (Obj.cells #[Value.string (⟨#[115, 98]⟩ : ByteArray), Value.string (⟨#[115, 104]⟩ : ByteArray), Value.string (⟨#[115, 119]⟩ : ByteArray), Value.string (⟨#[99, 115, 99]⟩ : ByteArray)] 9)) (.slice (some ⟨w2.heap.size, 0, none⟩) 4 4) [⟨#[115, 98]⟩, ⟨#[115, 104]⟩, ⟨#[115, 119]⟩, ⟨#[99, 115, 99]⟩] := by
    have h := lit_strs w2 [⟨#[115, 98]⟩, ⟨#[115, 104]⟩, ⟨#[115, 119]⟩, ⟨#[99, 115, 99]⟩] (by decide)
    simp only [World.heap_size_alloc_, List.length_cons, List.length_nil, Nat.zero_add, Nat.reduceAdd, List.map_cons, List.map_nil] at h
    exact h
  have HA := Aside0.mk hA
  clear hA
  have hT1 := Aside0.mk (AllTold.cons (t := Told.strs _ _) HA.out (hT0.out.below (below_alloc (Below.refl _ _) _)))
  clear hT0
  have hT0 := hT1
  clear hT1
  clear HA
  have hA : RowI ((w2.alloc (Obj.cells #[Value.string (⟨#[115, 98]⟩ : ByteArray), Value.string (⟨#[115, 104]⟩ : ByteArray), Value.string (⟨#[115, 119]⟩ : ByteArray), Value.string (⟨#[99, 115, 99]⟩ : ByteArray)] 9)).alloc (Obj.cells #[Value.int IntKind.u32 0, Value.int IntKind.u32 1, Value.int IntKind.u32 2, Value.int IntKind.u32 3] 22)) (.slice (some ⟨w2.heap.size + 1, 0, none⟩) 4 4) [0, 1, 2, 3] := by
    have h := lit_words (w2.alloc (Obj.cells #[Value.string (⟨#[115, 98]⟩ : ByteArray), Value.string (⟨#[115, 104]⟩ : ByteArray), Value.string (⟨#[115, 119]⟩ : ByteArray), Value.string (⟨#[99, 115, 99]⟩ : ByteArray)] 9)) [0, 1, 2, 3] (by decide)
    simp only [World.heap_size_alloc_, List.length_cons, List.length_nil, Nat.zero_add, Nat.reduceAdd, List.map_cons, List.map_nil] at h
    exact h
  have HA := Aside0.mk hA
  clear hA
  have hT1 := Aside0.mk (AllTold.cons (t := Told.words _ _) HA.out (hT0.out.below (below_alloc (Below.refl _ _) _)))
  clear hT0
  have hT0 := hT1
  clear hT1
  have hc := f3_row 35 [0, 1, 2, 3] [35, 4131, 8227, 12323] _ _ HA.out (by decide +kernel) 4 rfl
  simp only [List.length_cons, List.length_nil, Nat.zero_add, Nat.reduceAdd] at hc
  refine hc.mono ?_
  clear hc HA
  rintro e w3 ⟨A3, c3, rfl, hr, hb⟩
  have hT1 := Aside0.mk (AllTold.cons (t := Told.words (.slice A3 4 c3) [35, 4131, 8227, 12323]) hr (hT0.out.below hb))
  clear hT0
  have hT0 := hT1
  clear hT1
  have hB1 := Aside0.mk (((hB0.out.alloc (by have := hB0.out.size; (try simp only [World.heap_size_alloc_]); omega) _).alloc (by have := hB0.out.size; (try simp only [World.heap_size_alloc_]); omega) _).trans (hb.mono (by have := hB0.out.size; (try simp only [World.heap_size_alloc_]); omega)))
  clear hB0
  have hB0 := hB1
  clear hB1
  clear hr hb
  go_wp2_with fail
  have hA : RowS (w3.alloc (Obj.cells #[Value.string (⟨#[97, 100, 100, 105]⟩ : ByteArray), Value.string (⟨#[115, 108, 116, 105]⟩ : ByteArray), Value.string (⟨#[115, 108, 116, 105, 117]⟩ : ByteArray), Value.string (⟨#[120, 111, 114, 105]⟩ : ByteArray), Value.string (⟨#[111, 114, 105]⟩ : ByteArray), Value.string (⟨#[97, 110, 100, 105]⟩ : ByteArray)] 9)) (.slice (some ⟨w3.heap.size, 0, none⟩) 6 6) [⟨#[97, 100, 100, 105]⟩, ⟨#[115, 108, 116, 105]⟩, ⟨#[115, 108, 116, 105, 117]⟩, ⟨#[120, 111, 114, 105]⟩, ⟨#[111, 114, 105]⟩, ⟨#[97, 110, 100, 105]⟩] := by
    have h := lit_strs w3 [⟨#[97, 100, 100, 105]⟩, ⟨#[115, 108, 116, 105]⟩, ⟨#[115, 108, 116, 105, 117]⟩, ⟨#[120, 111, 114, 105]⟩, ⟨#[111, 114, 105]⟩, ⟨#[97, 110, 100, 105]⟩] (by decide)
    simp only [World.heap_size_alloc_, List.length_cons, List.length_nil, Nat.zero_add, Nat.reduceAdd, List.map_cons, List.map_nil] at h
    exact h
  have HA := Aside0.mk hA
  clear hA
  have hT1 := Aside0.mk (AllTold.cons (t := Told.strs _ _) HA.out (hT0.out.below (below_alloc (Below.refl _ _) _)))
  clear hT0
  have hT0 := hT1
  clear hT1
  clear HA
  have hA : RowI ((w3.alloc (Obj.cells #[Value.string (⟨#[97, 100, 100, 105]⟩ : ByteArray), Value.string (⟨#[115, 108, 116, 105]⟩ : ByteArray), Value.string (⟨#[115, 108, 116, 105, 117]⟩ : ByteArray), Value.string (⟨#[120, 111, 114, 105]⟩ : ByteArray), Value.string (⟨#[111, 114, 105]⟩ : ByteArray), Value.string (⟨#[97, 110, 100, 105]⟩ : ByteArray)] 9)).alloc (Obj.cells #[Value.int IntKind.u32 0, Value.int IntKind.u32 2, Value.int IntKind.u32 3, Value.int IntKind.u32 4, Value.int IntKind.u32 6, Value.int IntKind.u32 7] 22)) (.slice (some ⟨w3.heap.size + 1, 0, none⟩) 6 6) [0, 2, 3, 4, 6, 7] := by
    have h := lit_words (w3.alloc (Obj.cells #[Value.string (⟨#[97, 100, 100, 105]⟩ : ByteArray), Value.string (⟨#[115, 108, 116, 105]⟩ : ByteArray), Value.string (⟨#[115, 108, 116, 105, 117]⟩ : ByteArray), Value.string (⟨#[120, 111, 114, 105]⟩ : ByteArray), Value.string (⟨#[111, 114, 105]⟩ : ByteArray), Value.string (⟨#[97, 110, 100, 105]⟩ : ByteArray)] 9)) [0, 2, 3, 4, 6, 7] (by decide)
    simp only [World.heap_size_alloc_, List.length_cons, List.length_nil, Nat.zero_add, Nat.reduceAdd, List.map_cons, List.map_nil] at h
    exact h
  have HA := Aside0.mk hA
  clear hA
  have hT1 := Aside0.mk (AllTold.cons (t := Told.words _ _) HA.out (hT0.out.below (below_alloc (Below.refl _ _) _)))
  clear hT0
  have hT0 := hT1
  clear hT1
  have hc := f3_row 19 [0, 2, 3, 4, 6, 7] [19, 8211, 12307, 16403, 24595, 28691] _ _ HA.out (by decide +kernel) 6 rfl
  simp only [List.length_cons, List.length_nil, Nat.zero_add, Nat.reduceAdd] at hc
  refine hc.mono ?_
  clear hc HA
  rintro e w4 ⟨A4, c4, rfl, hr, hb⟩
  have hT1 := Aside0.mk (AllTold.cons (t := Told.words (.slice A4 6 c4) [19, 8211, 12307, 16403, 24595, 28691]) hr (hT0.out.below hb))
  clear hT0
  have hT0 := hT1
  clear hT1
  have hB1 := Aside0.mk (((hB0.out.alloc (by have := hB0.out.size; (try simp only [World.heap_size_alloc_]); omega) _).alloc (by have := hB0.out.size; (try simp only [World.heap_size_alloc_]); omega) _).trans (hb.mono (by have := hB0.out.size; (try simp only [World.heap_size_alloc_]); omega)))
  clear hB0
  have hB0 := hB1
  clear hB1
  clear hr hb
  go_wp2_with fail
  have hA : RowS (w4.alloc (Obj.cells #[Value.string (⟨#[115, 108, 108, 105]⟩ : ByteArray), Value.string (⟨#[115, 114, 108, 105]⟩ : ByteArray), Value.string (⟨#[115, 114, 97, 105]⟩ : ByteArray)] 9)) (.slice (some ⟨w4.heap.size, 0, none⟩) 3 3) [⟨#[115, 108, 108, 105]⟩, ⟨#[115, 114, 108, 105]⟩, ⟨#[115, 114, 97, 105]⟩] := by
    have h := lit_strs w4 [⟨#[115, 108, 108, 105]⟩, ⟨#[115, 114, 108, 105]⟩, ⟨#[115, 114, 97, 105]⟩] (by decide)
    simp only [World.heap_size_alloc_, List.length_cons, List.length_nil, Nat.zero_add, Nat.reduceAdd, List.map_cons, List.map_nil] at h
    exact h
  have HA := Aside0.mk hA
  clear hA
  have hT1 := Aside0.mk (AllTold.cons (t := Told.strs _ _) HA.out (hT0.out.below (below_alloc (Below.refl _ _) _)))
  clear hT0
  have hT0 := hT1
  clear hT1
  clear HA
  have hA : RowI ((w4.alloc (Obj.cells #[Value.string (⟨#[115, 108, 108, 105]⟩ : ByteArray), Value.string (⟨#[115, 114, 108, 105]⟩ : ByteArray), Value.string (⟨#[115, 114, 97, 105]⟩ : ByteArray)] 9)).alloc (Obj.cells #[Value.int IntKind.u32 1, Value.int IntKind.u32 0, Value.int IntKind.u32 5, Value.int IntKind.u32 0, Value.int IntKind.u32 5, Value.int IntKind.u32 32] 22)) (.slice (some ⟨w4.heap.size + 1, 0, none⟩) 6 6) [1, 0, 5, 0, 5, 32] := by
    have h := lit_words (w4.alloc (Obj.cells #[Value.string (⟨#[115, 108, 108, 105]⟩ : ByteArray), Value.string (⟨#[115, 114, 108, 105]⟩ : ByteArray), Value.string (⟨#[115, 114, 97, 105]⟩ : ByteArray)] 9)) [1, 0, 5, 0, 5, 32] (by decide)
    simp only [World.heap_size_alloc_, List.length_cons, List.length_nil, Nat.zero_add, Nat.reduceAdd, List.map_cons, List.map_nil] at h
    exact h
  have HA := Aside0.mk hA
  clear hA
  have hT1 := Aside0.mk (AllTold.cons (t := Told.words _ _) HA.out (hT0.out.below (below_alloc (Below.refl _ _) _)))
  clear hT0
  have hT0 := hT1
  clear hT1
  have hc := f7_row 19 [1, 0, 5, 0, 5, 32] [4115, 20499, 1073762323] _ _ HA.out (by decide +kernel) 3 rfl
  simp only [List.length_cons, List.length_nil, Nat.zero_add, Nat.reduceAdd] at hc
  refine hc.mono ?_
  clear hc HA
  rintro e w5 ⟨A5, c5, rfl, hr, hb⟩
  have hT1 := Aside0.mk (AllTold.cons (t := Told.words (.slice A5 3 c5) [4115, 20499, 1073762323]) hr (hT0.out.below hb))
  clear hT0
  have hT0 := hT1
  clear hT1
  have hB1 := Aside0.mk (((hB0.out.alloc (by have := hB0.out.size; (try simp only [World.heap_size_alloc_]); omega) _).alloc (by have := hB0.out.size; (try simp only [World.heap_size_alloc_]); omega) _).trans (hb.mono (by have := hB0.out.size; (try simp only [World.heap_size_alloc_]); omega)))
  clear hB0
  have hB0 := hB1
  clear hB1
  clear hr hb
  go_wp2_with fail
  have hA : RowS (w5.alloc (Obj.cells #[Value.string (⟨#[97, 100, 100]⟩ : ByteArray), Value.string (⟨#[115, 117, 98]⟩ : ByteArray), Value.string (⟨#[115, 108, 108]⟩ : ByteArray), Value.string (⟨#[115, 108, 116]⟩ : ByteArray), Value.string (⟨#[115, 108, 116, 117]⟩ : ByteArray), Value.string (⟨#[120, 111, 114]⟩ : ByteArray), Value.string (⟨#[115, 114, 108]⟩ : ByteArray), Value.string (⟨#[115, 114, 97]⟩ : ByteArray), Value.string (⟨#[111, 114]⟩ : ByteArray), Value.string (⟨#[97, 110, 100]⟩ : ByteArray)] 9)) (.slice (some ⟨w5.heap.size, 0, none⟩) 10 10) [⟨#[97, 100, 100]⟩, ⟨#[115, 117, 98]⟩, ⟨#[115, 108, 108]⟩, ⟨#[115, 108, 116]⟩, ⟨#[115, 108, 116, 117]⟩, ⟨#[120, 111, 114]⟩, ⟨#[115, 114, 108]⟩, ⟨#[115, 114, 97]⟩, ⟨#[111, 114]⟩, ⟨#[97, 110, 100]⟩] := by
    have h := lit_strs w5 [⟨#[97, 100, 100]⟩, ⟨#[115, 117, 98]⟩, ⟨#[115, 108, 108]⟩, ⟨#[115, 108, 116]⟩, ⟨#[115, 108, 116, 117]⟩, ⟨#[120, 111, 114]⟩, ⟨#[115, 114, 108]⟩, ⟨#[115, 114, 97]⟩, ⟨#[111, 114]⟩, ⟨#[97, 110, 100]⟩] (by decide)
    simp only [World.heap_size_alloc_, List.length_cons, List.length_nil, Nat.zero_add, Nat.reduceAdd, List.map_cons, List.map_nil] at h
    exact h
  have HA := Aside0.mk hA
  clear hA
  have hT1 := Aside0.mk (AllTold.cons (t := Told.strs _ _) HA.out (hT0.out.below (below_alloc (Below.refl _ _) _)))
  clear hT0
  have hT0 := hT1
  clear hT1
  clear HA
  have hA : RowI ((w5.alloc (Obj.cells #[Value.string (⟨#[97, 100, 100]⟩ : ByteArray), Value.string (⟨#[115, 117, 98]⟩ : ByteArray), Value.string (⟨#[115, 108, 108]⟩ : ByteArray), Value.string (⟨#[115, 108, 116]⟩ : ByteArray), Value.string (⟨#[115, 108, 116, 117]⟩ : ByteArray), Value.string (⟨#[120, 111, 114]⟩ : ByteArray), Value.string (⟨#[115, 114, 108]⟩ : ByteArray), Value.string (⟨#[115, 114, 97]⟩ : ByteArray), Value.string (⟨#[111, 114]⟩ : ByteArray), Value.string (⟨#[97, 110, 100]⟩ : ByteArray)] 9)).alloc (Obj.cells #[Value.int IntKind.u32 0, Value.int IntKind.u32 0, Value.int IntKind.u32 0, Value.int IntKind.u32 32, Value.int IntKind.u32 1, Value.int IntKind.u32 0, Value.int IntKind.u32 2, Value.int IntKind.u32 0, Value.int IntKind.u32 3, Value.int IntKind.u32 0, Value.int IntKind.u32 4, Value.int IntKind.u32 0, Value.int IntKind.u32 5, Value.int IntKind.u32 0, Value.int IntKind.u32 5, Value.int IntKind.u32 32, Value.int IntKind.u32 6, Value.int IntKind.u32 0, Value.int IntKind.u32 7, Value.int IntKind.u32 0] 22)) (.slice (some ⟨w5.heap.size + 1, 0, none⟩) 20 20) [0, 0, 0, 32, 1, 0, 2, 0, 3, 0, 4, 0, 5, 0, 5, 32, 6, 0, 7, 0] := by
    have h := lit_words (w5.alloc (Obj.cells #[Value.string (⟨#[97, 100, 100]⟩ : ByteArray), Value.string (⟨#[115, 117, 98]⟩ : ByteArray), Value.string (⟨#[115, 108, 108]⟩ : ByteArray), Value.string (⟨#[115, 108, 116]⟩ : ByteArray), Value.string (⟨#[115, 108, 116, 117]⟩ : ByteArray), Value.string (⟨#[120, 111, 114]⟩ : ByteArray), Value.string (⟨#[115, 114, 108]⟩ : ByteArray), Value.string (⟨#[115, 114, 97]⟩ : ByteArray), Value.string (⟨#[111, 114]⟩ : ByteArray), Value.string (⟨#[97, 110, 100]⟩ : ByteArray)] 9)) [0, 0, 0, 32, 1, 0, 2, 0, 3, 0, 4, 0, 5, 0, 5, 32, 6, 0, 7, 0] (by decide)
    simp only [World.heap_size_alloc_, List.length_cons, List.length_nil, Nat.zero_add, Nat.reduceAdd, List.map_cons, List.map_nil] at h
    exact h
  have HA := Aside0.mk hA
  clear hA
  have hT1 := Aside0.mk (AllTold.cons (t := Told.words _ _) HA.out (hT0.out.below (below_alloc (Below.refl _ _) _)))
  clear hT0
  have hT0 := hT1
  clear hT1
  have hc := f7_row 51 [0, 0, 0, 32, 1, 0, 2, 0, 3, 0, 4, 0, 5, 0, 5, 32, 6, 0, 7, 0] [51, 1073741875, 4147, 8243, 12339, 16435, 20531, 1073762355, 24627, 28723] _ _ HA.out (by decide +kernel) 10 rfl
  simp only [List.length_cons, List.length_nil, Nat.zero_add, Nat.reduceAdd] at hc
  refine hc.mono ?_
  clear hc HA
  rintro e w6 ⟨A6, c6, rfl, hr, hb⟩
  have hT1 := Aside0.mk (AllTold.cons (t := Told.words (.slice A6 10 c6) [51, 1073741875, 4147, 8243, 12339, 16435, 20531, 1073762355, 24627, 28723]) hr (hT0.out.below hb))
  clear hT0
  have hT0 := hT1
  clear hT1
  have hB1 := Aside0.mk (((hB0.out.alloc (by have := hB0.out.size; (try simp only [World.heap_size_alloc_]); omega) _).alloc (by have := hB0.out.size; (try simp only [World.heap_size_alloc_]); omega) _).trans (hb.mono (by have := hB0.out.size; (try simp only [World.heap_size_alloc_]); omega)))
  clear hB0
  have hB0 := hB1
  clear hB1
  clear hr hb
  go_wp2_with fail
  have hA : RowS (w6.alloc (Obj.cells #[Value.string (⟨#[109, 117, 108]⟩ : ByteArray), Value.string (⟨#[109, 117, 108, 104]⟩ : ByteArray), Value.string (⟨#[109, 117, 108, 104, 115, 117]⟩ : ByteArray), Value.string (⟨#[109, 117, 108, 104, 117]⟩ : ByteArray), Value.string (⟨#[100, 105, 118]⟩ : ByteArray), Value.string (⟨#[100, 105, 118, 117]⟩ : ByteArray), Value.string (⟨#[114, 101, 109]⟩ : ByteArray), Value.string (⟨#[114, 101, 109, 117]⟩ : ByteArray)] 9)) (.slice (some ⟨w6.heap.size, 0, none⟩) 8 8) [⟨#[109, 117, 108]⟩, ⟨#[109, 117, 108, 104]⟩, ⟨#[109, 117, 108, 104, 115, 117]⟩, ⟨#[109, 117, 108, 104, 117]⟩, ⟨#[100, 105, 118]⟩, ⟨#[100, 105, 118, 117]⟩, ⟨#[114, 101, 109]⟩, ⟨#[114, 101, 109, 117]⟩] := by
    have h := lit_strs w6 [⟨#[109, 117, 108]⟩, ⟨#[109, 117, 108, 104]⟩, ⟨#[109, 117, 108, 104, 115, 117]⟩, ⟨#[109, 117, 108, 104, 117]⟩, ⟨#[100, 105, 118]⟩, ⟨#[100, 105, 118, 117]⟩, ⟨#[114, 101, 109]⟩, ⟨#[114, 101, 109, 117]⟩] (by decide)
    simp only [World.heap_size_alloc_, List.length_cons, List.length_nil, Nat.zero_add, Nat.reduceAdd, List.map_cons, List.map_nil] at h
    exact h
  have HA := Aside0.mk hA
  clear hA
  have hT1 := Aside0.mk (AllTold.cons (t := Told.strs _ _) HA.out (hT0.out.below (below_alloc (Below.refl _ _) _)))
  clear hT0
  have hT0 := hT1
  clear hT1
  clear HA
  have hA : RowI ((w6.alloc (Obj.cells #[Value.string (⟨#[109, 117, 108]⟩ : ByteArray), Value.string (⟨#[109, 117, 108, 104]⟩ : ByteArray), Value.string (⟨#[109, 117, 108, 104, 115, 117]⟩ : ByteArray), Value.string (⟨#[109, 117, 108, 104, 117]⟩ : ByteArray), Value.string (⟨#[100, 105, 118]⟩ : ByteArray), Value.string (⟨#[100, 105, 118, 117]⟩ : ByteArray), Value.string (⟨#[114, 101, 109]⟩ : ByteArray), Value.string (⟨#[114, 101, 109, 117]⟩ : ByteArray)] 9)).alloc (Obj.cells #[Value.int IntKind.u32 0, Value.int IntKind.u32 1, Value.int IntKind.u32 1, Value.int IntKind.u32 1, Value.int IntKind.u32 2, Value.int IntKind.u32 1, Value.int IntKind.u32 3, Value.int IntKind.u32 1, Value.int IntKind.u32 4, Value.int IntKind.u32 1, Value.int IntKind.u32 5, Value.int IntKind.u32 1, Value.int IntKind.u32 6, Value.int IntKind.u32 1, Value.int IntKind.u32 7, Value.int IntKind.u32 1] 22)) (.slice (some ⟨w6.heap.size + 1, 0, none⟩) 16 16) [0, 1, 1, 1, 2, 1, 3, 1, 4, 1, 5, 1, 6, 1, 7, 1] := by
    have h := lit_words (w6.alloc (Obj.cells #[Value.string (⟨#[109, 117, 108]⟩ : ByteArray), Value.string (⟨#[109, 117, 108, 104]⟩ : ByteArray), Value.string (⟨#[109, 117, 108, 104, 115, 117]⟩ : ByteArray), Value.string (⟨#[109, 117, 108, 104, 117]⟩ : ByteArray), Value.string (⟨#[100, 105, 118]⟩ : ByteArray), Value.string (⟨#[100, 105, 118, 117]⟩ : ByteArray), Value.string (⟨#[114, 101, 109]⟩ : ByteArray), Value.string (⟨#[114, 101, 109, 117]⟩ : ByteArray)] 9)) [0, 1, 1, 1, 2, 1, 3, 1, 4, 1, 5, 1, 6, 1, 7, 1] (by decide)
    simp only [World.heap_size_alloc_, List.length_cons, List.length_nil, Nat.zero_add, Nat.reduceAdd, List.map_cons, List.map_nil] at h
    exact h
  have HA := Aside0.mk hA
  clear hA
  have hT1 := Aside0.mk (AllTold.cons (t := Told.words _ _) HA.out (hT0.out.below (below_alloc (Below.refl _ _) _)))
  clear hT0
  have hT0 := hT1
  clear hT1
  have hc := f7_row 51 [0, 1, 1, 1, 2, 1, 3, 1, 4, 1, 5, 1, 6, 1, 7, 1] [33554483, 33558579, 33562675, 33566771, 33570867, 33574963, 33579059, 33583155] _ _ HA.out (by decide +kernel) 8 rfl
  simp only [List.length_cons, List.length_nil, Nat.zero_add, Nat.reduceAdd] at hc
  refine hc.mono ?_
  clear hc HA
  rintro e w7 ⟨A7, c7, rfl, hr, hb⟩
  have hT1 := Aside0.mk (AllTold.cons (t := Told.words (.slice A7 8 c7) [33554483, 33558579, 33562675, 33566771, 33570867, 33574963, 33579059, 33583155]) hr (hT0.out.below hb))
  clear hT0
  have hT0 := hT1
  clear hT1
  have hB1 := Aside0.mk (((hB0.out.alloc (by have := hB0.out.size; (try simp only [World.heap_size_alloc_]); omega) _).alloc (by have := hB0.out.size; (try simp only [World.heap_size_alloc_]); omega) _).trans (hb.mono (by have := hB0.out.size; (try simp only [World.heap_size_alloc_]); omega)))
  clear hB0
  have hB0 := hB1
  clear hB1
  clear hr hb
  go_wp2_with fail
  have hA : RowS (w7.alloc (Obj.cells #[Value.string (⟨#[99, 46, 105, 110, 99, 97, 100, 100, 114, 105, 109, 109]⟩ : ByteArray)] 9)) (.slice (some ⟨w7.heap.size, 0, none⟩) 1 1) [⟨#[99, 46, 105, 110, 99, 97, 100, 100, 114, 105, 109, 109]⟩] := by
    have h := lit_strs w7 [⟨#[99, 46, 105, 110, 99, 97, 100, 100, 114, 105, 109, 109]⟩] (by decide)
    simp only [World.heap_size_alloc_, List.length_cons, List.length_nil, Nat.zero_add, Nat.reduceAdd, List.map_cons, List.map_nil] at h
    exact h
  have HA := Aside0.mk hA
  clear hA
  have hT1 := Aside0.mk (AllTold.cons (t := Told.strs _ _) HA.out (hT0.out.below (below_alloc (Below.refl _ _) _)))
  clear hT0
  have hT0 := hT1
  clear hT1
  clear HA
  have hA : RowI ((w7.alloc (Obj.cells #[Value.string (⟨#[99, 46, 105, 110, 99, 97, 100, 100, 114, 105, 109, 109]⟩ : ByteArray)] 9)).alloc (Obj.cells #[Value.int IntKind.u32 1] 22)) (.slice (some ⟨w7.heap.size + 1, 0, none⟩) 1 1) [1] := by
    have h := lit_words (w7.alloc (Obj.cells #[Value.string (⟨#[99, 46, 105, 110, 99, 97, 100, 100, 114, 105, 109, 109]⟩ : ByteArray)] 9)) [1] (by decide)
    simp only [World.heap_size_alloc_, List.length_cons, List.length_nil, Nat.zero_add, Nat.reduceAdd, List.map_cons, List.map_nil] at h
    exact h
  have HA := Aside0.mk hA
  clear hA
  have hT1 := Aside0.mk (AllTold.cons (t := Told.words _ _) HA.out (hT0.out.below (below_alloc (Below.refl _ _) _)))
  clear hT0
  have hT0 := hT1
  clear hT1
  have hc := f3_row 91 [1] [4187] _ _ HA.out (by decide +kernel) 1 rfl
  simp only [List.length_cons, List.length_nil, Nat.zero_add, Nat.reduceAdd] at hc
  refine hc.mono ?_
  clear hc HA
  rintro e w8 ⟨A8, c8, rfl, hr, hb⟩
  have hT1 := Aside0.mk (AllTold.cons (t := Told.words (.slice A8 1 c8) [4187]) hr (hT0.out.below hb))
  clear hT0
  have hT0 := hT1
  clear hT1
  have hB1 := Aside0.mk (((hB0.out.alloc (by have := hB0.out.size; (try simp only [World.heap_size_alloc_]); omega) _).alloc (by have := hB0.out.size; (try simp only [World.heap_size_alloc_]); omega) _).trans (hb.mono (by have := hB0.out.size; (try simp only [World.heap_size_alloc_]); omega)))
  clear hB0
  have hB0 := hB1
  clear hB1
  clear hr hb
  go_wp2_with fail
  have hA : RowS (w8.alloc (Obj.cells #[Value.string (⟨#[99, 46, 115, 101, 116, 98, 111, 117, 110, 100, 115, 105, 109, 109]⟩ : ByteArray)] 9)) (.slice (some ⟨w8.heap.size, 0, none⟩) 1 1) [⟨#[99, 46, 115, 101, 116, 98, 111, 117, 110, 100, 115, 105, 109, 109]⟩] := by
    have h := lit_strs w8 [⟨#[99, 46, 115, 101, 116, 98, 111, 117, 110, 100, 115, 105, 109, 109]⟩] (by decide)
    simp only [World.heap_size_alloc_, List.length_cons, List.length_nil, Nat.zero_add, Nat.reduceAdd, List.map_cons, List.map_nil] at h
    exact h
  have HA := Aside0.mk hA
  clear hA
  have hT1 := Aside0.mk (AllTold.cons (t := Told.strs _ _) HA.out (hT0.out.below (below_alloc (Below.refl _ _) _)))
  clear hT0
  have hT0 := hT1
  clear hT1
  clear HA
  have hA : RowI ((w8.alloc (Obj.cells #[Value.string (⟨#[99, 46, 115, 101, 116, 98, 111, 117, 110, 100, 115, 105, 109, 109]⟩ : ByteArray)] 9)).alloc (Obj.cells #[Value.int IntKind.u32 2] 22)) (.slice (some ⟨w8.heap.size + 1, 0, none⟩) 1 1) [2] := by
    have h := lit_words (w8.alloc (Obj.cells #[Value.string (⟨#[99, 46, 115, 101, 116, 98, 111, 117, 110, 100, 115, 105, 109, 109]⟩ : ByteArray)] 9)) [2] (by decide)
    simp only [World.heap_size_alloc_, List.length_cons, List.length_nil, Nat.zero_add, Nat.reduceAdd, List.map_cons, List.map_nil] at h
    exact h
  have HA := Aside0.mk hA
  clear hA
  have hT1 := Aside0.mk (AllTold.cons (t := Told.words _ _) HA.out (hT0.out.below (below_alloc (Below.refl _ _) _)))
  clear hT0
  have hT0 := hT1
  clear hT1
  have hc := f3_row 91 [2] [8283] _ _ HA.out (by decide +kernel) 1 rfl
  simp only [List.length_cons, List.length_nil, Nat.zero_add, Nat.reduceAdd] at hc
  refine hc.mono ?_
  clear hc HA
  rintro e w9 ⟨A9, c9, rfl, hr, hb⟩
  have hT1 := Aside0.mk (AllTold.cons (t := Told.words (.slice A9 1 c9) [8283]) hr (hT0.out.below hb))
  clear hT0
  have hT0 := hT1
  clear hT1
  have hB1 := Aside0.mk (((hB0.out.alloc (by have := hB0.out.size; (try simp only [World.heap_size_alloc_]); omega) _).alloc (by have := hB0.out.size; (try simp only [World.heap_size_alloc_]); omega) _).trans (hb.mono (by have := hB0.out.size; (try simp only [World.heap_size_alloc_]); omega)))
  clear hB0
  have hB0 := hB1
  clear hB1
  clear hr hb
  go_wp2_with fail
  have hA : RowS (w9.alloc (Obj.cells #[Value.string (⟨#[99, 46, 115, 101, 116, 98, 111, 117, 110, 100, 115]⟩ : ByteArray), Value.string (⟨#[99, 46, 115, 101, 97, 108]⟩ : ByteArray)] 9)) (.slice (some ⟨w9.heap.size, 0, none⟩) 2 2) [⟨#[99, 46, 115, 101, 116, 98, 111, 117, 110, 100, 115]⟩, ⟨#[99, 46, 115, 101, 97, 108]⟩] := by
    have h := lit_strs w9 [⟨#[99, 46, 115, 101, 116, 98, 111, 117, 110, 100, 115]⟩, ⟨#[99, 46, 115, 101, 97, 108]⟩] (by decide)
    simp only [World.heap_size_alloc_, List.length_cons, List.length_nil, Nat.zero_add, Nat.reduceAdd, List.map_cons, List.map_nil] at h
    exact h
  have HA := Aside0.mk hA
  clear hA
  have hT1 := Aside0.mk (AllTold.cons (t := Told.strs _ _) HA.out (hT0.out.below (below_alloc (Below.refl _ _) _)))
  clear hT0
  have hT0 := hT1
  clear hT1
  clear HA
  have hA : RowI ((w9.alloc (Obj.cells #[Value.string (⟨#[99, 46, 115, 101, 116, 98, 111, 117, 110, 100, 115]⟩ : ByteArray), Value.string (⟨#[99, 46, 115, 101, 97, 108]⟩ : ByteArray)] 9)).alloc (Obj.cells #[Value.int IntKind.u32 0, Value.int IntKind.u32 8, Value.int IntKind.u32 0, Value.int IntKind.u32 11] 22)) (.slice (some ⟨w9.heap.size + 1, 0, none⟩) 4 4) [0, 8, 0, 11] := by
    have h := lit_words (w9.alloc (Obj.cells #[Value.string (⟨#[99, 46, 115, 101, 116, 98, 111, 117, 110, 100, 115]⟩ : ByteArray), Value.string (⟨#[99, 46, 115, 101, 97, 108]⟩ : ByteArray)] 9)) [0, 8, 0, 11] (by decide)
    simp only [World.heap_size_alloc_, List.length_cons, List.length_nil, Nat.zero_add, Nat.reduceAdd, List.map_cons, List.map_nil] at h
    exact h
  have HA := Aside0.mk hA
  clear hA
  have hT1 := Aside0.mk (AllTold.cons (t := Told.words _ _) HA.out (hT0.out.below (below_alloc (Below.refl _ _) _)))
  clear hT0
  have hT0 := hT1
  clear hT1
  have hc := f7_row 91 [0, 8, 0, 11] [268435547, 369098843] _ _ HA.out (by decide +kernel) 2 rfl
  simp only [List.length_cons, List.length_nil, Nat.zero_add, Nat.reduceAdd] at hc
  refine hc.mono ?_
  clear hc HA
  rintro e w10 ⟨A10, c10, rfl, hr, hb⟩
  have hT1 := Aside0.mk (AllTold.cons (t := Told.words (.slice A10 2 c10) [268435547, 369098843]) hr (hT0.out.below hb))
  clear hT0
  have hT0 := hT1
  clear hT1
  have hB1 := Aside0.mk (((hB0.out.alloc (by have := hB0.out.size; (try simp only [World.heap_size_alloc_]); omega) _).alloc (by have := hB0.out.size; (try simp only [World.heap_size_alloc_]); omega) _).trans (hb.mono (by have := hB0.out.size; (try simp only [World.heap_size_alloc_]); omega)))
  clear hB0
  have hB0 := hB1
  clear hB1
  clear hr hb
  go_wp2_with fail
  have hA : RowS (w10.alloc (Obj.cells #[Value.string (⟨#[99, 46, 117, 110, 115, 101, 97, 108]⟩ : ByteArray)] 9)) (.slice (some ⟨w10.heap.size, 0, none⟩) 1 1) [⟨#[99, 46, 117, 110, 115, 101, 97, 108]⟩] := by
    have h := lit_strs w10 [⟨#[99, 46, 117, 110, 115, 101, 97, 108]⟩] (by decide)
    simp only [World.heap_size_alloc_, List.length_cons, List.length_nil, Nat.zero_add, Nat.reduceAdd, List.map_cons, List.map_nil] at h
    exact h
  have HA := Aside0.mk hA
  clear hA
  have hT1 := Aside0.mk (AllTold.cons (t := Told.strs _ _) HA.out (hT0.out.below (below_alloc (Below.refl _ _) _)))
  clear hT0
  have hT0 := hT1
  clear hT1
  clear HA
  have hA : RowI ((w10.alloc (Obj.cells #[Value.string (⟨#[99, 46, 117, 110, 115, 101, 97, 108]⟩ : ByteArray)] 9)).alloc (Obj.cells #[Value.int IntKind.u32 0, Value.int IntKind.u32 12] 22)) (.slice (some ⟨w10.heap.size + 1, 0, none⟩) 2 2) [0, 12] := by
    have h := lit_words (w10.alloc (Obj.cells #[Value.string (⟨#[99, 46, 117, 110, 115, 101, 97, 108]⟩ : ByteArray)] 9)) [0, 12] (by decide)
    simp only [World.heap_size_alloc_, List.length_cons, List.length_nil, Nat.zero_add, Nat.reduceAdd, List.map_cons, List.map_nil] at h
    exact h
  have HA := Aside0.mk hA
  clear hA
  have hT1 := Aside0.mk (AllTold.cons (t := Told.words _ _) HA.out (hT0.out.below (below_alloc (Below.refl _ _) _)))
  clear hT0
  have hT0 := hT1
  clear hT1
  have hc := f7_row 91 [0, 12] [402653275] _ _ HA.out (by decide +kernel) 1 rfl
  simp only [List.length_cons, List.length_nil, Nat.zero_add, Nat.reduceAdd] at hc
  refine hc.mono ?_
  clear hc HA
  rintro e w11 ⟨A11, c11, rfl, hr, hb⟩
  have hT1 := Aside0.mk (AllTold.cons (t := Told.words (.slice A11 1 c11) [402653275]) hr (hT0.out.below hb))
  clear hT0
  have hT0 := hT1
  clear hT1
  have hB1 := Aside0.mk (((hB0.out.alloc (by have := hB0.out.size; (try simp only [World.heap_size_alloc_]); omega) _).alloc (by have := hB0.out.size; (try simp only [World.heap_size_alloc_]); omega) _).trans (hb.mono (by have := hB0.out.size; (try simp only [World.heap_size_alloc_]); omega)))
  clear hB0
  have hB0 := hB1
  clear hB1
  clear hr hb
  go_wp2_with fail
  have hA : RowS (w11.alloc (Obj.cells #[Value.string (⟨#[99, 46, 97, 110, 100, 112, 101, 114, 109]⟩ : ByteArray), Value.string (⟨#[99, 46, 115, 101, 116, 97, 100, 100, 114]⟩ : ByteArray), Value.string (⟨#[99, 46, 105, 110, 99, 97, 100, 100, 114]⟩ : ByteArray), Value.string (⟨#[99, 46, 116, 101, 115, 116, 115, 117, 98, 115, 101, 116]⟩ : ByteArray)] 9)) (.slice (some ⟨w11.heap.size, 0, none⟩) 4 4) [⟨#[99, 46, 97, 110, 100, 112, 101, 114, 109]⟩, ⟨#[99, 46, 115, 101, 116, 97, 100, 100, 114]⟩, ⟨#[99, 46, 105, 110, 99, 97, 100, 100, 114]⟩, ⟨#[99, 46, 116, 101, 115, 116, 115, 117, 98, 115, 101, 116]⟩] := by
    have h := lit_strs w11 [⟨#[99, 46, 97, 110, 100, 112, 101, 114, 109]⟩, ⟨#[99, 46, 115, 101, 116, 97, 100, 100, 114]⟩, ⟨#[99, 46, 105, 110, 99, 97, 100, 100, 114]⟩, ⟨#[99, 46, 116, 101, 115, 116, 115, 117, 98, 115, 101, 116]⟩] (by decide)
    simp only [World.heap_size_alloc_, List.length_cons, List.length_nil, Nat.zero_add, Nat.reduceAdd, List.map_cons, List.map_nil] at h
    exact h
  have HA := Aside0.mk hA
  clear hA
  have hT1 := Aside0.mk (AllTold.cons (t := Told.strs _ _) HA.out (hT0.out.below (below_alloc (Below.refl _ _) _)))
  clear hT0
  have hT0 := hT1
  clear hT1
  clear HA
  have hA : RowI ((w11.alloc (Obj.cells #[Value.string (⟨#[99, 46, 97, 110, 100, 112, 101, 114, 109]⟩ : ByteArray), Value.string (⟨#[99, 46, 115, 101, 116, 97, 100, 100, 114]⟩ : ByteArray), Value.string (⟨#[99, 46, 105, 110, 99, 97, 100, 100, 114]⟩ : ByteArray), Value.string (⟨#[99, 46, 116, 101, 115, 116, 115, 117, 98, 115, 101, 116]⟩ : ByteArray)] 9)).alloc (Obj.cells #[Value.int IntKind.u32 0, Value.int IntKind.u32 13, Value.int IntKind.u32 0, Value.int IntKind.u32 16, Value.int IntKind.u32 0, Value.int IntKind.u32 17, Value.int IntKind.u32 0, Value.int IntKind.u32 32] 22)) (.slice (some ⟨w11.heap.size + 1, 0, none⟩) 8 8) [0, 13, 0, 16, 0, 17, 0, 32] := by
    have h := lit_words (w11.alloc (Obj.cells #[Value.string (⟨#[99, 46, 97, 110, 100, 112, 101, 114, 109]⟩ : ByteArray), Value.string (⟨#[99, 46, 115, 101, 116, 97, 100, 100, 114]⟩ : ByteArray), Value.string (⟨#[99, 46, 105, 110, 99, 97, 100, 100, 114]⟩ : ByteArray), Value.string (⟨#[99, 46, 116, 101, 115, 116, 115, 117, 98, 115, 101, 116]⟩ : ByteArray)] 9)) [0, 13, 0, 16, 0, 17, 0, 32] (by decide)
    simp only [World.heap_size_alloc_, List.length_cons, List.length_nil, Nat.zero_add, Nat.reduceAdd, List.map_cons, List.map_nil] at h
    exact h
  have HA := Aside0.mk hA
  clear hA
  have hT1 := Aside0.mk (AllTold.cons (t := Told.words _ _) HA.out (hT0.out.below (below_alloc (Below.refl _ _) _)))
  clear hT0
  have hT0 := hT1
  clear hT1
  have hc := f7_row 91 [0, 13, 0, 16, 0, 17, 0, 32] [436207707, 536871003, 570425435, 1073741915] _ _ HA.out (by decide +kernel) 4 rfl
  simp only [List.length_cons, List.length_nil, Nat.zero_add, Nat.reduceAdd] at hc
  refine hc.mono ?_
  clear hc HA
  rintro e w12 ⟨A12, c12, rfl, hr, hb⟩
  have hT1 := Aside0.mk (AllTold.cons (t := Told.words (.slice A12 4 c12) [436207707, 536871003, 570425435, 1073741915]) hr (hT0.out.below hb))
  clear hT0
  have hT0 := hT1
  clear hT1
  have hB1 := Aside0.mk (((hB0.out.alloc (by have := hB0.out.size; (try simp only [World.heap_size_alloc_]); omega) _).alloc (by have := hB0.out.size; (try simp only [World.heap_size_alloc_]); omega) _).trans (hb.mono (by have := hB0.out.size; (try simp only [World.heap_size_alloc_]); omega)))
  clear hB0
  have hB0 := hB1
  clear hB1
  clear hr hb
  go_wp2_with fail
  have hA : RowS (w12.alloc (Obj.cells #[Value.string (⟨#[99, 46, 103, 101, 116, 112, 101, 114, 109]⟩ : ByteArray), Value.string (⟨#[99, 46, 103, 101, 116, 116, 121, 112, 101]⟩ : ByteArray), Value.string (⟨#[99, 46, 103, 101, 116, 98, 97, 115, 101]⟩ : ByteArray), Value.string (⟨#[99, 46, 103, 101, 116, 108, 101, 110]⟩ : ByteArray), Value.string (⟨#[99, 46, 103, 101, 116, 116, 97, 103]⟩ : ByteArray), Value.string (⟨#[99, 46, 109, 111, 118, 101]⟩ : ByteArray), Value.string (⟨#[99, 46, 99, 108, 101, 97, 114, 116, 97, 103]⟩ : ByteArray), Value.string (⟨#[99, 46, 103, 101, 116, 97, 100, 100, 114]⟩ : ByteArray), Value.string (⟨#[99, 46, 115, 101, 110, 116, 114, 121]⟩ : ByteArray)] 9)) (.slice (some ⟨w12.heap.size, 0, none⟩) 9 9) [⟨#[99, 46, 103, 101, 116, 112, 101, 114, 109]⟩, ⟨#[99, 46, 103, 101, 116, 116, 121, 112, 101]⟩, ⟨#[99, 46, 103, 101, 116, 98, 97, 115, 101]⟩, ⟨#[99, 46, 103, 101, 116, 108, 101, 110]⟩, ⟨#[99, 46, 103, 101, 116, 116, 97, 103]⟩, ⟨#[99, 46, 109, 111, 118, 101]⟩, ⟨#[99, 46, 99, 108, 101, 97, 114, 116, 97, 103]⟩, ⟨#[99, 46, 103, 101, 116, 97, 100, 100, 114]⟩, ⟨#[99, 46, 115, 101, 110, 116, 114, 121]⟩] := by
    have h := lit_strs w12 [⟨#[99, 46, 103, 101, 116, 112, 101, 114, 109]⟩, ⟨#[99, 46, 103, 101, 116, 116, 121, 112, 101]⟩, ⟨#[99, 46, 103, 101, 116, 98, 97, 115, 101]⟩, ⟨#[99, 46, 103, 101, 116, 108, 101, 110]⟩, ⟨#[99, 46, 103, 101, 116, 116, 97, 103]⟩, ⟨#[99, 46, 109, 111, 118, 101]⟩, ⟨#[99, 46, 99, 108, 101, 97, 114, 116, 97, 103]⟩, ⟨#[99, 46, 103, 101, 116, 97, 100, 100, 114]⟩, ⟨#[99, 46, 115, 101, 110, 116, 114, 121]⟩] (by decide)
    simp only [World.heap_size_alloc_, List.length_cons, List.length_nil, Nat.zero_add, Nat.reduceAdd, List.map_cons, List.map_nil] at h
    exact h
  have HA := Aside0.mk hA
  clear hA
  have hT1 := Aside0.mk (AllTold.cons (t := Told.strs _ _) HA.out (hT0.out.below (below_alloc (Below.refl _ _) _)))
  clear hT0
  have hT0 := hT1
  clear hT1
  clear HA
  have hA : RowI ((w12.alloc (Obj.cells #[Value.string (⟨#[99, 46, 103, 101, 116, 112, 101, 114, 109]⟩ : ByteArray), Value.string (⟨#[99, 46, 103, 101, 116, 116, 121, 112, 101]⟩ : ByteArray), Value.string (⟨#[99, 46, 103, 101, 116, 98, 97, 115, 101]⟩ : ByteArray), Value.string (⟨#[99, 46, 103, 101, 116, 108, 101, 110]⟩ : ByteArray), Value.string (⟨#[99, 46, 103, 101, 116, 116, 97, 103]⟩ : ByteArray), Value.string (⟨#[99, 46, 109, 111, 118, 101]⟩ : ByteArray), Value.string (⟨#[99, 46, 99, 108, 101, 97, 114, 116, 97, 103]⟩ : ByteArray), Value.string (⟨#[99, 46, 103, 101, 116, 97, 100, 100, 114]⟩ : ByteArray), Value.string (⟨#[99, 46, 115, 101, 110, 116, 114, 121]⟩ : ByteArray)] 9)).alloc (Obj.cells #[Value.int IntKind.u32 0, Value.int IntKind.u32 1, Value.int IntKind.u32 2, Value.int IntKind.u32 3, Value.int IntKind.u32 4, Value.int IntKind.u32 10, Value.int IntKind.u32 11, Value.int IntKind.u32 15, Value.int IntKind.u32 17] 22)) (.slice (some ⟨w12.heap.size + 1, 0, none⟩) 9 9) [0, 1, 2, 3, 4, 10, 11, 15, 17] := by
    have h := lit_words (w12.alloc (Obj.cells #[Value.string (⟨#[99, 46, 103, 101, 116, 112, 101, 114, 109]⟩ : ByteArray), Value.string (⟨#[99, 46, 103, 101, 116, 116, 121, 112, 101]⟩ : ByteArray), Value.string (⟨#[99, 46, 103, 101, 116, 98, 97, 115, 101]⟩ : ByteArray), Value.string (⟨#[99, 46, 103, 101, 116, 108, 101, 110]⟩ : ByteArray), Value.string (⟨#[99, 46, 103, 101, 116, 116, 97, 103]⟩ : ByteArray), Value.string (⟨#[99, 46, 109, 111, 118, 101]⟩ : ByteArray), Value.string (⟨#[99, 46, 99, 108, 101, 97, 114, 116, 97, 103]⟩ : ByteArray), Value.string (⟨#[99, 46, 103, 101, 116, 97, 100, 100, 114]⟩ : ByteArray), Value.string (⟨#[99, 46, 115, 101, 110, 116, 114, 121]⟩ : ByteArray)] 9)) [0, 1, 2, 3, 4, 10, 11, 15, 17] (by decide)
    simp only [World.heap_size_alloc_, List.length_cons, List.length_nil, Nat.zero_add, Nat.reduceAdd, List.map_cons, List.map_nil] at h
    exact h
  have HA := Aside0.mk hA
  clear hA
  have hT1 := Aside0.mk (AllTold.cons (t := Told.words _ _) HA.out (hT0.out.below (below_alloc (Below.refl _ _) _)))
  clear hT0
  have hT0 := hT1
  clear hT1
  have hc := source_row [0, 1, 2, 3, 4, 10, 11, 15, 17] [4261412955, 4262461531, 4263510107, 4264558683, 4265607259, 4271898715, 4272947291, 4277141595, 4279238747] _ _ HA.out (by decide +kernel) 9 rfl
  simp only [List.length_cons, List.length_nil, Nat.zero_add, Nat.reduceAdd] at hc
  refine hc.mono ?_
  clear hc HA
  rintro e w13 ⟨A13, c13, rfl, hr, hb⟩
  have hT1 := Aside0.mk (AllTold.cons (t := Told.words (.slice A13 9 c13) [4261412955, 4262461531, 4263510107, 4264558683, 4265607259, 4271898715, 4272947291, 4277141595, 4279238747]) hr (hT0.out.below hb))
  clear hT0
  have hT0 := hT1
  clear hT1
  have hB1 := Aside0.mk (((hB0.out.alloc (by have := hB0.out.size; (try simp only [World.heap_size_alloc_]); omega) _).alloc (by have := hB0.out.size; (try simp only [World.heap_size_alloc_]); omega) _).trans (hb.mono (by have := hB0.out.size; (try simp only [World.heap_size_alloc_]); omega)))
  clear hB0
  have hB0 := hB1
  clear hB1
  clear hr hb
  go_wp2_with fail
  have hA : RowS (w13.alloc (Obj.cells #[Value.string (⟨#[99, 46, 115, 112, 101, 99, 105, 97, 108, 114, 119]⟩ : ByteArray)] 9)) (.slice (some ⟨w13.heap.size, 0, none⟩) 1 1) [⟨#[99, 46, 115, 112, 101, 99, 105, 97, 108, 114, 119]⟩] := by
    have h := lit_strs w13 [⟨#[99, 46, 115, 112, 101, 99, 105, 97, 108, 114, 119]⟩] (by decide)
    simp only [World.heap_size_alloc_, List.length_cons, List.length_nil, Nat.zero_add, Nat.reduceAdd, List.map_cons, List.map_nil] at h
    exact h
  have HA := Aside0.mk hA
  clear hA
  have hT1 := Aside0.mk (AllTold.cons (t := Told.strs _ _) HA.out (hT0.out.below (below_alloc (Below.refl _ _) _)))
  clear hT0
  have hT0 := hT1
  clear hT1
  clear HA
  have hA : RowI ((w13.alloc (Obj.cells #[Value.string (⟨#[99, 46, 115, 112, 101, 99, 105, 97, 108, 114, 119]⟩ : ByteArray)] 9)).alloc (Obj.cells #[Value.int IntKind.u32 0, Value.int IntKind.u32 1] 22)) (.slice (some ⟨w13.heap.size + 1, 0, none⟩) 2 2) [0, 1] := by
    have h := lit_words (w13.alloc (Obj.cells #[Value.string (⟨#[99, 46, 115, 112, 101, 99, 105, 97, 108, 114, 119]⟩ : ByteArray)] 9)) [0, 1] (by decide)
    simp only [World.heap_size_alloc_, List.length_cons, List.length_nil, Nat.zero_add, Nat.reduceAdd, List.map_cons, List.map_nil] at h
    exact h
  have HA := Aside0.mk hA
  clear hA
  have hT1 := Aside0.mk (AllTold.cons (t := Told.words _ _) HA.out (hT0.out.below (below_alloc (Below.refl _ _) _)))
  clear hT0
  have hT0 := hT1
  clear hT1
  have hc := f7_row 91 [0, 1] [33554523] _ _ HA.out (by decide +kernel) 1 rfl
  simp only [List.length_cons, List.length_nil, Nat.zero_add, Nat.reduceAdd] at hc
  refine hc.mono ?_
  clear hc HA
  rintro e w14 ⟨A14, c14, rfl, hr, hb⟩
  have hT1 := Aside0.mk (AllTold.cons (t := Told.words (.slice A14 1 c14) [33554523]) hr (hT0.out.below hb))
  clear hT0
  have hT0 := hT1
  clear hT1
  have hB1 := Aside0.mk (((hB0.out.alloc (by have := hB0.out.size; (try simp only [World.heap_size_alloc_]); omega) _).alloc (by have := hB0.out.size; (try simp only [World.heap_size_alloc_]); omega) _).trans (hb.mono (by have := hB0.out.size; (try simp only [World.heap_size_alloc_]); omega)))
  clear hB0
  have hB0 := hB1
  clear hB1
  clear hr hb
  go_wp2
  have hA : RowS (w14.alloc (Obj.cells #[Value.string (⟨#[101, 99, 97, 108, 108]⟩ : ByteArray), Value.string (⟨#[109, 114, 101, 116]⟩ : ByteArray)] 9)) (.slice (some ⟨w14.heap.size, 0, none⟩) 2 2) [⟨#[101, 99, 97, 108, 108]⟩, ⟨#[109, 114, 101, 116]⟩] := by
    have h := lit_strs w14 [⟨#[101, 99, 97, 108, 108]⟩, ⟨#[109, 114, 101, 116]⟩] (by decide)
    simp only [World.heap_size_alloc_, List.length_cons, List.length_nil, Nat.zero_add, Nat.reduceAdd, List.map_cons, List.map_nil] at h
    exact h
  have hT1 := Aside0.mk (AllTold.cons (t := Told.strs _ _) hA (hT0.out.below (below_alloc (Below.refl _ _) _)))
  clear hA
  clear hT0
  have hT0 := hT1
  clear hT1
  have hA : RowI ((w14.alloc (Obj.cells #[Value.string (⟨#[101, 99, 97, 108, 108]⟩ : ByteArray), Value.string (⟨#[109, 114, 101, 116]⟩ : ByteArray)] 9)).alloc (Obj.cells #[Value.int IntKind.u32 115, Value.int IntKind.u32 807403635] 22)) (.slice (some ⟨w14.heap.size + 1, 0, none⟩) 2 2) [115, 807403635] := by
    have h := lit_words (w14.alloc (Obj.cells #[Value.string (⟨#[101, 99, 97, 108, 108]⟩ : ByteArray), Value.string (⟨#[109, 114, 101, 116]⟩ : ByteArray)] 9)) [115, 807403635] (by decide)
    simp only [World.heap_size_alloc_, List.length_cons, List.length_nil, Nat.zero_add, Nat.reduceAdd, List.map_cons, List.map_nil] at h
    exact h
  have hT1 := Aside0.mk (AllTold.cons (t := Told.words _ _) hA (hT0.out.below (below_alloc (Below.refl _ _) _)))
  clear hA
  clear hT0
  have hT0 := hT1
  clear hT1
  have hB0 : Aside0 (Below w.heap.size w ((w14.alloc (Obj.cells #[Value.string (⟨#[101, 99, 97, 108, 108]⟩ : ByteArray), Value.string (⟨#[109, 114, 101, 116]⟩ : ByteArray)] 9)).alloc (Obj.cells #[Value.int IntKind.u32 115, Value.int IntKind.u32 807403635] 22))) := Aside0.mk (((hB0.out.alloc (by have := hB0.out.size; (try simp only [World.heap_size_alloc_]); omega) _).alloc (by have := hB0.out.size; (try simp only [World.heap_size_alloc_]); omega) _))
  generalize hW : ((w14.alloc (Obj.cells #[Value.string (⟨#[101, 99, 97, 108, 108]⟩ : ByteArray), Value.string (⟨#[109, 114, 101, 116]⟩ : ByteArray)] 9)).alloc (Obj.cells #[Value.int IntKind.u32 115, Value.int IntKind.u32 807403635] 22)) = W at *
  have hz : W.heap.size = w14.heap.size + 1 + 1 := by rw [← hW]; simp only [World.heap_size_alloc_]
  go_ret
  refine ⟨_, rfl, ⟨w14.heap.size + 1 + 1, by simp, fun k hk => ?_⟩, ?_⟩
  · have hT : ∀ o, AllTold (W.alloc o) _ := fun o => hT0.out.below (below_alloc (Below.refl _ _) o)
    rw [← hz]
    have hk : k = 0 ∨ k = 1 ∨ k = 2 ∨ k = 3 ∨ k = 4 ∨ k = 5 ∨ k = 6 ∨ k = 7 ∨ k = 8 ∨ k = 9 ∨ k = 10 ∨ k = 11 ∨ k = 12 ∨ k = 13 ∨ k = 14 ∨ k = 15 ∨ k = 16 ∨ k = 17 := by omega
    rcases hk with rfl | rfl | rfl | rfl | rfl | rfl | rfl | rfl | rfl | rfl | rfl | rfl | rfl | rfl | rfl | rfl | rfl | rfl
    · exact ⟨.slice (some ⟨w.heap.size, 0, none⟩) 2 2, .slice (some ⟨w.heap.size + 1, 0, none⟩) 2 2, by simp [go_sem, fam, fams], by simp [go_sem, fam, fams, fnOf], by simp [go_sem], by simp [go_sem], hT _ (.strs _ _) (List.Mem.tail _ (List.Mem.tail _ (List.Mem.tail _ (List.Mem.tail _ (List.Mem.tail _ (List.Mem.tail _ (List.Mem.tail _ (List.Mem.tail _ (List.Mem.tail _ (List.Mem.tail _ (List.Mem.tail _ (List.Mem.tail _ (List.Mem.tail _ (List.Mem.tail _ (List.Mem.tail _ (List.Mem.tail _ (List.Mem.tail _ (List.Mem.tail _ (List.Mem.tail _ (List.Mem.tail _ (List.Mem.tail _ (List.Mem.tail _ (List.Mem.tail _ (List.Mem.tail _ (List.Mem.tail _ (List.Mem.tail _ (List.Mem.tail _ (List.Mem.tail _ (List.Mem.tail _ (List.Mem.tail _ (List.Mem.tail _ (List.Mem.tail _ (List.Mem.tail _ (List.Mem.tail _ (List.Mem.tail _ (List.Mem.tail _ (List.Mem.tail _ (List.Mem.tail _ (List.Mem.tail _ (List.Mem.tail _ (List.Mem.tail _ (List.Mem.tail _ (List.Mem.tail _ (List.Mem.tail _ (List.Mem.tail _ (List.Mem.tail _ (List.Mem.tail _ (List.Mem.tail _ (List.Mem.tail _ (List.Mem.head _)))))))))))))))))))))))))))))))))))))))))))))))))), hT _ (.words _ _) (List.Mem.tail _ (List.Mem.tail _ (List.Mem.tail _ (List.Mem.tail _ (List.Mem.tail _ (List.Mem.tail _ (List.Mem.tail _ (List.Mem.tail _ (List.Mem.tail _ (List.Mem.tail _ (List.Mem.tail _ (List.Mem.tail _ (List.Mem.tail _ (List.Mem.tail _ (List.Mem.tail _ (List.Mem.tail _ (List.Mem.tail _ (List.Mem.tail _ (List.Mem.tail _ (List.Mem.tail _ (List.Mem.tail _ (List.Mem.tail _ (List.Mem.tail _ (List.Mem.tail _ (List.Mem.tail _ (List.Mem.tail _ (List.Mem.tail _ (List.Mem.tail _ (List.Mem.tail _ (List.Mem.tail _ (List.Mem.tail _ (List.Mem.tail _ (List.Mem.tail _ (List.Mem.tail _ (List.Mem.tail _ (List.Mem.tail _ (List.Mem.tail _ (List.Mem.tail _ (List.Mem.tail _ (List.Mem.tail _ (List.Mem.tail _ (List.Mem.tail _ (List.Mem.tail _ (List.Mem.tail _ (List.Mem.tail _ (List.Mem.tail _ (List.Mem.tail _ (List.Mem.tail _ (List.Mem.head _)))))))))))))))))))))))))))))))))))))))))))))))))⟩
    · exact ⟨.slice (some ⟨w.heap.size + 1 + 1, 0, none⟩) 1 1, .slice (some ⟨w.heap.size + 1 + 1 + 1, 0, none⟩) 1 1, by simp [go_sem, fam, fams], by simp [go_sem, fam, fams, fnOf], by simp [go_sem], by simp [go_sem], hT _ (.strs _ _) (List.Mem.tail _ (List.Mem.tail _ (List.Mem.tail _ (List.Mem.tail _ (List.Mem.tail _ (List.Mem.tail _ (List.Mem.tail _ (List.Mem.tail _ (List.Mem.tail _ (List.Mem.tail _ (List.Mem.tail _ (List.Mem.tail _ (List.Mem.tail _ (List.Mem.tail _ (List.Mem.tail _ (List.Mem.tail _ (List.Mem.tail _ (List.Mem.tail _ (List.Mem.tail _ (List.Mem.tail _ (List.Mem.tail _ (List.Mem.tail _ (List.Mem.tail _ (List.Mem.tail _ (List.Mem.tail _ (List.Mem.tail _ (List.Mem.tail _ (List.Mem.tail _ (List.Mem.tail _ (List.Mem.tail _ (List.Mem.tail _ (List.Mem.tail _ (List.Mem.tail _ (List.Mem.tail _ (List.Mem.tail _ (List.Mem.tail _ (List.Mem.tail _ (List.Mem.tail _ (List.Mem.tail _ (List.Mem.tail _ (List.Mem.tail _ (List.Mem.tail _ (List.Mem.tail _ (List.Mem.tail _ (List.Mem.tail _ (List.Mem.tail _ (List.Mem.tail _ (List.Mem.head _)))))))))))))))))))))))))))))))))))))))))))))))), hT _ (.words _ _) (List.Mem.tail _ (List.Mem.tail _ (List.Mem.tail _ (List.Mem.tail _ (List.Mem.tail _ (List.Mem.tail _ (List.Mem.tail _ (List.Mem.tail _ (List.Mem.tail _ (List.Mem.tail _ (List.Mem.tail _ (List.Mem.tail _ (List.Mem.tail _ (List.Mem.tail _ (List.Mem.tail _ (List.Mem.tail _ (List.Mem.tail _ (List.Mem.tail _ (List.Mem.tail _ (List.Mem.tail _ (List.Mem.tail _ (List.Mem.tail _ (List.Mem.tail _ (List.Mem.tail _ (List.Mem.tail _ (List.Mem.tail _ (List.Mem.tail _ (List.Mem.tail _ (List.Mem.tail _ (List.Mem.tail _ (List.Mem.tail _ (List.Mem.tail _ (List.Mem.tail _ (List.Mem.tail _ (List.Mem.tail _ (List.Mem.tail _ (List.Mem.tail _ (List.Mem.tail _ (List.Mem.tail _ (List.Mem.tail _ (List.Mem.tail _ (List.Mem.tail _ (List.Mem.tail _ (List.Mem.tail _ (List.Mem.tail _ (List.Mem.tail _ (List.Mem.head _)))))))))))))))))))))))))))))))))))))))))))))))⟩
    · exact ⟨.slice (some ⟨w.heap.size + 1 + 1 + 1 + 1, 0, none⟩) 1 1, .slice (some ⟨w.heap.size + 1 + 1 + 1 + 1 + 1, 0, none⟩) 1 1, by simp [go_sem, fam, fams], by simp [go_sem, fam, fams, fnOf], by simp [go_sem], by simp [go_sem], hT _ (.strs _ _) (List.Mem.tail _ (List.Mem.tail _ (List.Mem.tail _ (List.Mem.tail _ (List.Mem.tail _ (List.Mem.tail _ (List.Mem.tail _ (List.Mem.tail _ (List.Mem.tail _ (List.Mem.tail _ (List.Mem.tail _ (List.Mem.tail _ (List.Mem.tail _ (List.Mem.tail _ (List.Mem.tail _ (List.Mem.tail _ (List.Mem.tail _ (List.Mem.tail _ (List.Mem.tail _ (List.Mem.tail _ (List.Mem.tail _ (List.Mem.tail _ (List.Mem.tail _ (List.Mem.tail _ (List.Mem.tail _ (List.Mem.tail _ (List.Mem.tail _ (List.Mem.tail _ (List.Mem.tail _ (List.Mem.tail _ (List.Mem.tail _ (List.Mem.tail _ (List.Mem.tail _ (List.Mem.tail _ (List.Mem.tail _ (List.Mem.tail _ (List.Mem.tail _ (List.Mem.tail _ (List.Mem.tail _ (List.Mem.tail _ (List.Mem.tail _ (List.Mem.tail _ (List.Mem.tail _ (List.Mem.tail _ (List.Mem.tail _ (List.Mem.head _)))))))))))))))))))))))))))))))))))))))))))))), hT _ (.words _ _) (List.Mem.tail _ (List.Mem.tail _ (List.Mem.tail _ (List.Mem.tail _ (List.Mem.tail _ (List.Mem.tail _ (List.Mem.tail _ (List.Mem.tail _ (List.Mem.tail _ (List.Mem.tail _ (List.Mem.tail _ (List.Mem.tail _ (List.Mem.tail _ (List.Mem.tail _ (List.Mem.tail _ (List.Mem.tail _ (List.Mem.tail _ (List.Mem.tail _ (List.Mem.tail _ (List.Mem.tail _ (List.Mem.tail _ (List.Mem.tail _ (List.Mem.tail _ (List.Mem.tail _ (List.Mem.tail _ (List.Mem.tail _ (List.Mem.tail _ (List.Mem.tail _ (List.Mem.tail _ (List.Mem.tail _ (List.Mem.tail _ (List.Mem.tail _ (List.Mem.tail _ (List.Mem.tail _ (List.Mem.tail _ (List.Mem.tail _ (List.Mem.tail _ (List.Mem.tail _ (List.Mem.tail _ (List.Mem.tail _ (List.Mem.tail _ (List.Mem.tail _ (List.Mem.tail _ (List.Mem.tail _ (List.Mem.head _)))))))))))))))))))))))))))))))))))))))))))))⟩
    · exact ⟨.slice (some ⟨w.heap.size + 1 + 1 + 1 + 1 + 1 + 1, 0, none⟩) 6 6, .slice A1 6 c1, by simp [go_sem, fam, fams], by simp [go_sem, fam, fams, fnOf], by simp [go_sem], by simp [go_sem], hT _ (.strs _ _) (List.Mem.tail _ (List.Mem.tail _ (List.Mem.tail _ (List.Mem.tail _ (List.Mem.tail _ (List.Mem.tail _ (List.Mem.tail _ (List.Mem.tail _ (List.Mem.tail _ (List.Mem.tail _ (List.Mem.tail _ (List.Mem.tail _ (List.Mem.tail _ (List.Mem.tail _ (List.Mem.tail _ (List.Mem.tail _ (List.Mem.tail _ (List.Mem.tail _ (List.Mem.tail _ (List.Mem.tail _ (List.Mem.tail _ (List.Mem.tail _ (List.Mem.tail _ (List.Mem.tail _ (List.Mem.tail _ (List.Mem.tail _ (List.Mem.tail _ (List.Mem.tail _ (List.Mem.tail _ (List.Mem.tail _ (List.Mem.tail _ (List.Mem.tail _ (List.Mem.tail _ (List.Mem.tail _ (List.Mem.tail _ (List.Mem.tail _ (List.Mem.tail _ (List.Mem.tail _ (List.Mem.tail _ (List.Mem.tail _ (List.Mem.tail _ (List.Mem.tail _ (List.Mem.tail _ (List.Mem.head _)))))))))))))))))))))))))))))))))))))))))))), hT _ (.words _ _) (List.Mem.tail _ (List.Mem.tail _ (List.Mem.tail _ (List.Mem.tail _ (List.Mem.tail _ (List.Mem.tail _ (List.Mem.tail _ (List.Mem.tail _ (List.Mem.tail _ (List.Mem.tail _ (List.Mem.tail _ (List.Mem.tail _ (List.Mem.tail _ (List.Mem.tail _ (List.Mem.tail _ (List.Mem.tail _ (List.Mem.tail _ (List.Mem.tail _ (List.Mem.tail _ (List.Mem.tail _ (List.Mem.tail _ (List.Mem.tail _ (List.Mem.tail _ (List.Mem.tail _ (List.Mem.tail _ (List.Mem.tail _ (List.Mem.tail _ (List.Mem.tail _ (List.Mem.tail _ (List.Mem.tail _ (List.Mem.tail _ (List.Mem.tail _ (List.Mem.tail _ (List.Mem.tail _ (List.Mem.tail _ (List.Mem.tail _ (List.Mem.tail _ (List.Mem.tail _ (List.Mem.tail _ (List.Mem.tail _ (List.Mem.tail _ (List.Mem.head _))))))))))))))))))))))))))))))))))))))))))⟩
    · exact ⟨.slice (some ⟨w1.heap.size, 0, none⟩) 6 6, .slice A2 6 c2, by simp [go_sem, fam, fams], by simp [go_sem, fam, fams, fnOf], by simp [go_sem], by simp [go_sem], hT _ (.strs _ _) (List.Mem.tail _ (List.Mem.tail _ (List.Mem.tail _ (List.Mem.tail _ (List.Mem.tail _ (List.Mem.tail _ (List.Mem.tail _ (List.Mem.tail _ (List.Mem.tail _ (List.Mem.tail _ (List.Mem.tail _ (List.Mem.tail _ (List.Mem.tail _ (List.Mem.tail _ (List.Mem.tail _ (List.Mem.tail _ (List.Mem.tail _ (List.Mem.tail _ (List.Mem.tail _ (List.Mem.tail _ (List.Mem.tail _ (List.Mem.tail _ (List.Mem.tail _ (List.Mem.tail _ (List.Mem.tail _ (List.Mem.tail _ (List.Mem.tail _ (List.Mem.tail _ (List.Mem.tail _ (List.Mem.tail _ (List.Mem.tail _ (List.Mem.tail _ (List.Mem.tail _ (List.Mem.tail _ (List.Mem.tail _ (List.Mem.tail _ (List.Mem.tail _ (List.Mem.tail _ (List.Mem.tail _ (List.Mem.tail _ (List.Mem.head _))))))))))))))))))))))))))))))))))))))))), hT _ (.words _ _) (List.Mem.tail _ (List.Mem.tail _ (List.Mem.tail _ (List.Mem.tail _ (List.Mem.tail _ (List.Mem.tail _ (List.Mem.tail _ (List.Mem.tail _ (List.Mem.tail _ (List.Mem.tail _ (List.Mem.tail _ (List.Mem.tail _ (List.Mem.tail _ (List.Mem.tail _ (List.Mem.tail _ (List.Mem.tail _ (List.Mem.tail _ (List.Mem.tail _ (List.Mem.tail _ (List.Mem.tail _ (List.Mem.tail _ (List.Mem.tail _ (List.Mem.tail _ (List.Mem.tail _ (List.Mem.tail _ (List.Mem.tail _ (List.Mem.tail _ (List.Mem.tail _ (List.Mem.tail _ (List.Mem.tail _ (List.Mem.tail _ (List.Mem.tail _ (List.Mem.tail _ (List.Mem.tail _ (List.Mem.tail _ (List.Mem.tail _ (List.Mem.tail _ (List.Mem.tail _ (List.Mem.head _)))))))))))))))))))))))))))))))))))))))⟩
    · exact ⟨.slice (some ⟨w2.heap.size, 0, none⟩) 4 4, .slice A3 4 c3, by simp [go_sem, fam, fams], by simp [go_sem, fam, fams, fnOf], by simp [go_sem], by simp [go_sem], hT _ (.strs _ _) (List.Mem.tail _ (List.Mem.tail _ (List.Mem.tail _ (List.Mem.tail _ (List.Mem.tail _ (List.Mem.tail _ (List.Mem.tail _ (List.Mem.tail _ (List.Mem.tail _ (List.Mem.tail _ (List.Mem.tail _ (List.Mem.tail _ (List.Mem.tail _ (List.Mem.tail _ (List.Mem.tail _ (List.Mem.tail _ (List.Mem.tail _ (List.Mem.tail _ (List.Mem.tail _ (List.Mem.tail _ (List.Mem.tail _ (List.Mem.tail _ (List.Mem.tail _ (List.Mem.tail _ (List.Mem.tail _ (List.Mem.tail _ (List.Mem.tail _ (List.Mem.tail _ (List.Mem.tail _ (List.Mem.tail _ (List.Mem.tail _ (List.Mem.tail _ (List.Mem.tail _ (List.Mem.tail _ (List.Mem.tail _ (List.Mem.tail _ (List.Mem.tail _ (List.Mem.head _)))))))))))))))))))))))))))))))))))))), hT _ (.words _ _) (List.Mem.tail _ (List.Mem.tail _ (List.Mem.tail _ (List.Mem.tail _ (List.Mem.tail _ (List.Mem.tail _ (List.Mem.tail _ (List.Mem.tail _ (List.Mem.tail _ (List.Mem.tail _ (List.Mem.tail _ (List.Mem.tail _ (List.Mem.tail _ (List.Mem.tail _ (List.Mem.tail _ (List.Mem.tail _ (List.Mem.tail _ (List.Mem.tail _ (List.Mem.tail _ (List.Mem.tail _ (List.Mem.tail _ (List.Mem.tail _ (List.Mem.tail _ (List.Mem.tail _ (List.Mem.tail _ (List.Mem.tail _ (List.Mem.tail _ (List.Mem.tail _ (List.Mem.tail _ (List.Mem.tail _ (List.Mem.tail _ (List.Mem.tail _ (List.Mem.tail _ (List.Mem.tail _ (List.Mem.tail _ (List.Mem.head _))))))))))))))))))))))))))))))))))))⟩
    · exact ⟨.slice (some ⟨w3.heap.size, 0, none⟩) 6 6, .slice A4 6 c4, by simp [go_sem, fam, fams], by simp [go_sem, fam, fams, fnOf], by simp [go_sem], by simp [go_sem], hT _ (.strs _ _) (List.Mem.tail _ (List.Mem.tail _ (List.Mem.tail _ (List.Mem.tail _ (List.Mem.tail _ (List.Mem.tail _ (List.Mem.tail _ (List.Mem.tail _ (List.Mem.tail _ (List.Mem.tail _ (List.Mem.tail _ (List.Mem.tail _ (List.Mem.tail _ (List.Mem.tail _ (List.Mem.tail _ (List.Mem.tail _ (List.Mem.tail _ (List.Mem.tail _ (List.Mem.tail _ (List.Mem.tail _ (List.Mem.tail _ (List.Mem.tail _ (List.Mem.tail _ (List.Mem.tail _ (List.Mem.tail _ (List.Mem.tail _ (List.Mem.tail _ (List.Mem.tail _ (List.Mem.tail _ (List.Mem.tail _ (List.Mem.tail _ (List.Mem.tail _ (List.Mem.tail _ (List.Mem.tail _ (List.Mem.head _))))))))))))))))))))))))))))))))))), hT _ (.words _ _) (List.Mem.tail _ (List.Mem.tail _ (List.Mem.tail _ (List.Mem.tail _ (List.Mem.tail _ (List.Mem.tail _ (List.Mem.tail _ (List.Mem.tail _ (List.Mem.tail _ (List.Mem.tail _ (List.Mem.tail _ (List.Mem.tail _ (List.Mem.tail _ (List.Mem.tail _ (List.Mem.tail _ (List.Mem.tail _ (List.Mem.tail _ (List.Mem.tail _ (List.Mem.tail _ (List.Mem.tail _ (List.Mem.tail _ (List.Mem.tail _ (List.Mem.tail _ (List.Mem.tail _ (List.Mem.tail _ (List.Mem.tail _ (List.Mem.tail _ (List.Mem.tail _ (List.Mem.tail _ (List.Mem.tail _ (List.Mem.tail _ (List.Mem.tail _ (List.Mem.head _)))))))))))))))))))))))))))))))))⟩
    · exact ⟨.slice (some ⟨w4.heap.size, 0, none⟩) 3 3, .slice A5 3 c5, by simp [go_sem, fam, fams], by simp [go_sem, fam, fams, fnOf], by simp [go_sem], by simp [go_sem], hT _ (.strs _ _) (List.Mem.tail _ (List.Mem.tail _ (List.Mem.tail _ (List.Mem.tail _ (List.Mem.tail _ (List.Mem.tail _ (List.Mem.tail _ (List.Mem.tail _ (List.Mem.tail _ (List.Mem.tail _ (List.Mem.tail _ (List.Mem.tail _ (List.Mem.tail _ (List.Mem.tail _ (List.Mem.tail _ (List.Mem.tail _ (List.Mem.tail _ (List.Mem.tail _ (List.Mem.tail _ (List.Mem.tail _ (List.Mem.tail _ (List.Mem.tail _ (List.Mem.tail _ (List.Mem.tail _ (List.Mem.tail _ (List.Mem.tail _ (List.Mem.tail _ (List.Mem.tail _ (List.Mem.tail _ (List.Mem.tail _ (List.Mem.tail _ (List.Mem.head _)))))))))))))))))))))))))))))))), hT _ (.words _ _) (List.Mem.tail _ (List.Mem.tail _ (List.Mem.tail _ (List.Mem.tail _ (List.Mem.tail _ (List.Mem.tail _ (List.Mem.tail _ (List.Mem.tail _ (List.Mem.tail _ (List.Mem.tail _ (List.Mem.tail _ (List.Mem.tail _ (List.Mem.tail _ (List.Mem.tail _ (List.Mem.tail _ (List.Mem.tail _ (List.Mem.tail _ (List.Mem.tail _ (List.Mem.tail _ (List.Mem.tail _ (List.Mem.tail _ (List.Mem.tail _ (List.Mem.tail _ (List.Mem.tail _ (List.Mem.tail _ (List.Mem.tail _ (List.Mem.tail _ (List.Mem.tail _ (List.Mem.tail _ (List.Mem.head _))))))))))))))))))))))))))))))⟩
    · exact ⟨.slice (some ⟨w5.heap.size, 0, none⟩) 10 10, .slice A6 10 c6, by simp [go_sem, fam, fams], by simp [go_sem, fam, fams, fnOf], by simp [go_sem], by simp [go_sem], hT _ (.strs _ _) (List.Mem.tail _ (List.Mem.tail _ (List.Mem.tail _ (List.Mem.tail _ (List.Mem.tail _ (List.Mem.tail _ (List.Mem.tail _ (List.Mem.tail _ (List.Mem.tail _ (List.Mem.tail _ (List.Mem.tail _ (List.Mem.tail _ (List.Mem.tail _ (List.Mem.tail _ (List.Mem.tail _ (List.Mem.tail _ (List.Mem.tail _ (List.Mem.tail _ (List.Mem.tail _ (List.Mem.tail _ (List.Mem.tail _ (List.Mem.tail _ (List.Mem.tail _ (List.Mem.tail _ (List.Mem.tail _ (List.Mem.tail _ (List.Mem.tail _ (List.Mem.tail _ (List.Mem.head _))))))))))))))))))))))))))))), hT _ (.words _ _) (List.Mem.tail _ (List.Mem.tail _ (List.Mem.tail _ (List.Mem.tail _ (List.Mem.tail _ (List.Mem.tail _ (List.Mem.tail _ (List.Mem.tail _ (List.Mem.tail _ (List.Mem.tail _ (List.Mem.tail _ (List.Mem.tail _ (List.Mem.tail _ (List.Mem.tail _ (List.Mem.tail _ (List.Mem.tail _ (List.Mem.tail _ (List.Mem.tail _ (List.Mem.tail _ (List.Mem.tail _ (List.Mem.tail _ (List.Mem.tail _ (List.Mem.tail _ (List.Mem.tail _ (List.Mem.tail _ (List.Mem.tail _ (List.Mem.head _)))))))))))))))))))))))))))⟩
    · exact ⟨.slice (some ⟨w6.heap.size, 0, none⟩) 8 8, .slice A7 8 c7, by simp [go_sem, fam, fams], by simp [go_sem, fam, fams, fnOf], by simp [go_sem], by simp [go_sem], hT _ (.strs _ _) (List.Mem.tail _ (List.Mem.tail _ (List.Mem.tail _ (List.Mem.tail _ (List.Mem.tail _ (List.Mem.tail _ (List.Mem.tail _ (List.Mem.tail _ (List.Mem.tail _ (List.Mem.tail _ (List.Mem.tail _ (List.Mem.tail _ (List.Mem.tail _ (List.Mem.tail _ (List.Mem.tail _ (List.Mem.tail _ (List.Mem.tail _ (List.Mem.tail _ (List.Mem.tail _ (List.Mem.tail _ (List.Mem.tail _ (List.Mem.tail _ (List.Mem.tail _ (List.Mem.tail _ (List.Mem.tail _ (List.Mem.head _)))))))))))))))))))))))))), hT _ (.words _ _) (List.Mem.tail _ (List.Mem.tail _ (List.Mem.tail _ (List.Mem.tail _ (List.Mem.tail _ (List.Mem.tail _ (List.Mem.tail _ (List.Mem.tail _ (List.Mem.tail _ (List.Mem.tail _ (List.Mem.tail _ (List.Mem.tail _ (List.Mem.tail _ (List.Mem.tail _ (List.Mem.tail _ (List.Mem.tail _ (List.Mem.tail _ (List.Mem.tail _ (List.Mem.tail _ (List.Mem.tail _ (List.Mem.tail _ (List.Mem.tail _ (List.Mem.tail _ (List.Mem.head _))))))))))))))))))))))))⟩
    · exact ⟨.slice (some ⟨w7.heap.size, 0, none⟩) 1 1, .slice A8 1 c8, by simp [go_sem, fam, fams], by simp [go_sem, fam, fams, fnOf], by simp [go_sem], by simp [go_sem], hT _ (.strs _ _) (List.Mem.tail _ (List.Mem.tail _ (List.Mem.tail _ (List.Mem.tail _ (List.Mem.tail _ (List.Mem.tail _ (List.Mem.tail _ (List.Mem.tail _ (List.Mem.tail _ (List.Mem.tail _ (List.Mem.tail _ (List.Mem.tail _ (List.Mem.tail _ (List.Mem.tail _ (List.Mem.tail _ (List.Mem.tail _ (List.Mem.tail _ (List.Mem.tail _ (List.Mem.tail _ (List.Mem.tail _ (List.Mem.tail _ (List.Mem.tail _ (List.Mem.head _))))))))))))))))))))))), hT _ (.words _ _) (List.Mem.tail _ (List.Mem.tail _ (List.Mem.tail _ (List.Mem.tail _ (List.Mem.tail _ (List.Mem.tail _ (List.Mem.tail _ (List.Mem.tail _ (List.Mem.tail _ (List.Mem.tail _ (List.Mem.tail _ (List.Mem.tail _ (List.Mem.tail _ (List.Mem.tail _ (List.Mem.tail _ (List.Mem.tail _ (List.Mem.tail _ (List.Mem.tail _ (List.Mem.tail _ (List.Mem.tail _ (List.Mem.head _)))))))))))))))))))))⟩
    · exact ⟨.slice (some ⟨w8.heap.size, 0, none⟩) 1 1, .slice A9 1 c9, by simp [go_sem, fam, fams], by simp [go_sem, fam, fams, fnOf], by simp [go_sem], by simp [go_sem], hT _ (.strs _ _) (List.Mem.tail _ (List.Mem.tail _ (List.Mem.tail _ (List.Mem.tail _ (List.Mem.tail _ (List.Mem.tail _ (List.Mem.tail _ (List.Mem.tail _ (List.Mem.tail _ (List.Mem.tail _ (List.Mem.tail _ (List.Mem.tail _ (List.Mem.tail _ (List.Mem.tail _ (List.Mem.tail _ (List.Mem.tail _ (List.Mem.tail _ (List.Mem.tail _ (List.Mem.tail _ (List.Mem.head _)))))))))))))))))))), hT _ (.words _ _) (List.Mem.tail _ (List.Mem.tail _ (List.Mem.tail _ (List.Mem.tail _ (List.Mem.tail _ (List.Mem.tail _ (List.Mem.tail _ (List.Mem.tail _ (List.Mem.tail _ (List.Mem.tail _ (List.Mem.tail _ (List.Mem.tail _ (List.Mem.tail _ (List.Mem.tail _ (List.Mem.tail _ (List.Mem.tail _ (List.Mem.tail _ (List.Mem.head _))))))))))))))))))⟩
    · exact ⟨.slice (some ⟨w9.heap.size, 0, none⟩) 2 2, .slice A10 2 c10, by simp [go_sem, fam, fams], by simp [go_sem, fam, fams, fnOf], by simp [go_sem], by simp [go_sem], hT _ (.strs _ _) (List.Mem.tail _ (List.Mem.tail _ (List.Mem.tail _ (List.Mem.tail _ (List.Mem.tail _ (List.Mem.tail _ (List.Mem.tail _ (List.Mem.tail _ (List.Mem.tail _ (List.Mem.tail _ (List.Mem.tail _ (List.Mem.tail _ (List.Mem.tail _ (List.Mem.tail _ (List.Mem.tail _ (List.Mem.tail _ (List.Mem.head _))))))))))))))))), hT _ (.words _ _) (List.Mem.tail _ (List.Mem.tail _ (List.Mem.tail _ (List.Mem.tail _ (List.Mem.tail _ (List.Mem.tail _ (List.Mem.tail _ (List.Mem.tail _ (List.Mem.tail _ (List.Mem.tail _ (List.Mem.tail _ (List.Mem.tail _ (List.Mem.tail _ (List.Mem.tail _ (List.Mem.head _)))))))))))))))⟩
    · exact ⟨.slice (some ⟨w10.heap.size, 0, none⟩) 1 1, .slice A11 1 c11, by simp [go_sem, fam, fams], by simp [go_sem, fam, fams, fnOf], by simp [go_sem], by simp [go_sem], hT _ (.strs _ _) (List.Mem.tail _ (List.Mem.tail _ (List.Mem.tail _ (List.Mem.tail _ (List.Mem.tail _ (List.Mem.tail _ (List.Mem.tail _ (List.Mem.tail _ (List.Mem.tail _ (List.Mem.tail _ (List.Mem.tail _ (List.Mem.tail _ (List.Mem.tail _ (List.Mem.head _)))))))))))))), hT _ (.words _ _) (List.Mem.tail _ (List.Mem.tail _ (List.Mem.tail _ (List.Mem.tail _ (List.Mem.tail _ (List.Mem.tail _ (List.Mem.tail _ (List.Mem.tail _ (List.Mem.tail _ (List.Mem.tail _ (List.Mem.tail _ (List.Mem.head _))))))))))))⟩
    · exact ⟨.slice (some ⟨w11.heap.size, 0, none⟩) 4 4, .slice A12 4 c12, by simp [go_sem, fam, fams], by simp [go_sem, fam, fams, fnOf], by simp [go_sem], by simp [go_sem], hT _ (.strs _ _) (List.Mem.tail _ (List.Mem.tail _ (List.Mem.tail _ (List.Mem.tail _ (List.Mem.tail _ (List.Mem.tail _ (List.Mem.tail _ (List.Mem.tail _ (List.Mem.tail _ (List.Mem.tail _ (List.Mem.head _))))))))))), hT _ (.words _ _) (List.Mem.tail _ (List.Mem.tail _ (List.Mem.tail _ (List.Mem.tail _ (List.Mem.tail _ (List.Mem.tail _ (List.Mem.tail _ (List.Mem.tail _ (List.Mem.head _)))))))))⟩
    · exact ⟨.slice (some ⟨w12.heap.size, 0, none⟩) 9 9, .slice A13 9 c13, by simp [go_sem, fam, fams], by simp [go_sem, fam, fams, fnOf], by simp [go_sem], by simp [go_sem], hT _ (.strs _ _) (List.Mem.tail _ (List.Mem.tail _ (List.Mem.tail _ (List.Mem.tail _ (List.Mem.tail _ (List.Mem.tail _ (List.Mem.tail _ (List.Mem.head _)))))))), hT _ (.words _ _) (List.Mem.tail _ (List.Mem.tail _ (List.Mem.tail _ (List.Mem.tail _ (List.Mem.tail _ (List.Mem.head _))))))⟩
    · exact ⟨.slice (some ⟨w13.heap.size, 0, none⟩) 1 1, .slice A14 1 c14, by simp [go_sem, fam, fams], by simp [go_sem, fam, fams, fnOf], by simp [go_sem], by simp [go_sem], hT _ (.strs _ _) (List.Mem.tail _ (List.Mem.tail _ (List.Mem.tail _ (List.Mem.tail _ (List.Mem.head _))))), hT _ (.words _ _) (List.Mem.tail _ (List.Mem.tail _ (List.Mem.head _)))⟩
    · exact ⟨.slice (some ⟨w14.heap.size, 0, none⟩) 2 2, .slice (some ⟨w14.heap.size + 1, 0, none⟩) 2 2, by simp [go_sem, fam, fams], by simp [go_sem, fam, fams, fnOf], by simp [go_sem], by simp [go_sem], hT _ (.strs _ _) (List.Mem.tail _ (List.Mem.head _)), hT _ (.words _ _) (List.Mem.head _)⟩
  · exact hB0.out.alloc (by have := hB0.out.size; omega) _
end Go.Proofs.Ytadbonmkockakaa.Ins
