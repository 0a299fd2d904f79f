/- An argument opened by the kinds of its cells: numbers, strings, bools, structs, slices, arrays, in one another; with what the reading gives: the numbers' bounds, the strings' sizes, the bulk. Over any program. -/
import Derived.Test.YtdjmahmbofhnpaaDoorRows
import Derived.Test.YtdjmahmbofhnpaaDoorWWords
import Derived.Deep.Slices
import Derived.OpenShut
import Derived.ChangeSlices
import Derived.ProofKit
namespace Go.Proofs.YtdjmahmbofhnpaaDoor.Open
open Go.RowKit Go.Proofs.YtdjmahmbofhnpaaDoorW.PrintWords Go.Proofs.YtdjmahmbofhnpaaDoor
open Go.Deep (open_slice)
set_option linter.unusedVariables false
theorem bulk_one {H : Type} (d : DataW H) : 1 ≤ Rows.uptoBulk d := by
  cases d with
  | lit l => cases l <;> simp [Rows.uptoBulk]
  | nil => simp [Rows.uptoBulk]
  | ptr d => simp [Rows.uptoBulk]
  | slice elems spare => simp [Rows.uptoBulk]
  | agg parts => simp [Rows.uptoBulk]
  | iface t d => simp [Rows.uptoBulk]
  | map entries => simp [Rows.uptoBulk]
  | held h => simp [Rows.uptoBulk]
theorem bulkAll_sum {H : Type} (l : List (DataW H)) : Rows.uptoBulkAll l = (l.map Rows.uptoBulk).sum := by
  induction l with
  | nil => rfl
  | cons x r ih => simp [Rows.uptoBulkAll, ih]
theorem bulk_part {H : Type} {d : DataW H} {l : List (DataW H)} (h : d ∈ l) : Rows.uptoBulk d ≤ Rows.uptoBulkAll l := by
  induction l with
  | nil => cases h
  | cons x r ih =>
    simp only [Rows.uptoBulkAll]
    cases List.mem_cons.1 h with
    | inl e => subst e; omega
    | inr e => have := ih e; omega
theorem sum_le : ∀ {l r : List Nat}, l.length = r.length → (∀ (i : Nat) (x y : Nat), l[i]? = some x → r[i]? = some y → x ≤ y) → l.sum ≤ r.sum
  | [], [], _, _ => Nat.le_refl _
  | x :: l, y :: r, h, k => by
    simp only [List.sum_cons]
    exact Nat.add_le_add (k 0 x y rfl rfl) (sum_le (by simpa using h) (fun i a b ha hb => k (i + 1) a b (by simpa using ha) (by simpa using hb)))
section
variable {H : Type} (enc : TypeId × Value → H) (P : Program) (w : World) (base : Nat) (spare : Nat → Bool) (held : Bool) {α β γ : Type}
/-- All of them are within the reach. -/
def Fits (l : List Nat) : Prop := ∀ n ∈ l, n ≤ 140737488351232
/-- A value of type t opens: its cells are of kind k, what it is meets Wf, and Sz where the weights are within the reach; its measure is at most the bulk. -/
def Opens (t : TypeId) (k : Kd α) (Wf Sz : α → Prop) (m : α → Nat) : Prop :=
  k.sz = P.cellsOf t ∧ ∀ (fuel : Nat) (cs : List Value) (x : DataW H × List MemPlace), DataW.trod enc P w base spare held fuel t cs = some x → ∃ a, k.K w a cs ∧ Wf a ∧ (Fits (x.1.weights P t) → Sz a) ∧ m a ≤ Rows.uptoBulk x.1
/-- The fields of a struct from one on open. -/
def OpF (n : Nat) (fs : List Field) (off : Nat) (k : Kd α) (Wf Sz : α → Prop) (m : α → Nat) : Prop :=
  ∀ (fuel : Nat) (cs : List Value) (xs : List (DataW H × List MemPlace)), cs.length = n → xs.length = fs.length →
    (∀ (i : Nat) (f : Field), fs[i]? = some f → DataW.trod enc P w base spare held fuel f.type ((cs.drop f.offset).take (P.cellsOf f.type)) = xs[i]?) →
    ∃ a, k.K w a (cs.drop off) ∧ Wf a ∧ (Fits (DataW.weightsEach P (fs.map (·.type)) (xs.map (·.1))) → Sz a) ∧ m a ≤ (xs.map fun x => Rows.uptoBulk x.1).sum
variable {enc P w base spare held}
theorem op_int {t : TypeId} {kd : IntKind} (ht : P.underlying t = some (.int kd)) (hc : P.cellsOf t = 1) : Opens enc P w base spare held t (Kd.int kd) (fun n => (Lit.int kd n).wf = true) (fun _ => True) (fun _ => 1) :=
  ⟨hc.symm, fun fuel cs x h => by
    obtain ⟨n, rfl, rfl, hw⟩ := DataW.trod_int ht h
    exact ⟨n, rfl, hw, fun _ => trivial, bulk_one _⟩⟩
theorem op_bool {t : TypeId} (ht : P.underlying t = some .bool) (hc : P.cellsOf t = 1) : Opens enc P w base spare held t Kd.bool (fun _ => True) (fun _ => True) (fun _ => 1) :=
  ⟨hc.symm, fun fuel cs x h => by
    obtain ⟨b, rfl, rfl⟩ := DataW.trod_bool ht h
    exact ⟨b, rfl, trivial, fun _ => trivial, bulk_one _⟩⟩
theorem op_string {t : TypeId} (ht : P.underlying t = some .string) (hc : P.cellsOf t = 1) : Opens enc P w base spare held t Kd.string (fun s => s.size ≤ maxLen) (fun s => s.size ≤ 140737488351232) (fun s => s.size + 1) :=
  ⟨hc.symm, fun fuel cs x h => by
    obtain ⟨s, rfl, rfl, hs⟩ := DataW.trod_string ht h
    refine ⟨s, rfl, hs, fun h => ?_, ?_⟩
    · have := h s.data.toList.length (by simp [DataW.weights])
      rw [Array.length_toList] at this
      exact this
    simp only [Rows.uptoBulk, Array.length_toList]
    exact Nat.le_refl _⟩
theorem op_iso {t : TypeId} {k : Kd α} {Wf Sz : α → Prop} {m : α → Nat} (f : β → α) (g : α → β) (hg : ∀ a, f (g a) = a) (h : Opens enc P w base spare held t k Wf Sz m) : Opens enc P w base spare held t (Kd.iso k f) (fun b => Wf (f b)) (fun b => Sz (f b)) (fun b => m (f b)) :=
  ⟨h.1, fun fuel cs x hx => by
    obtain ⟨a, h1, h2, h4, h3⟩ := h.2 fuel cs x hx
    refine ⟨g a, ?_, ?_, ?_, ?_⟩
    · show k.K w (f (g a)) cs
      rw [hg]; exact h1
    · show Wf (f (g a))
      rw [hg]; exact h2
    · show _ → Sz (f (g a))
      rw [hg]; exact h4
    · show m (f (g a)) ≤ _
      rw [hg]; exact h3⟩
theorem op_imp {t : TypeId} {k : Kd α} {Wf Wf' Sz Sz' : α → Prop} {m m' : α → Nat} (h : Opens enc P w base spare held t k Wf Sz m) (hw : ∀ a, Wf a → Wf' a) (hs : ∀ a, Sz a → Sz' a) (hm : ∀ a, m' a ≤ m a) : Opens enc P w base spare held t k Wf' Sz' m' :=
  ⟨h.1, fun fuel cs x hx => by
    obtain ⟨a, h1, h2, h4, h3⟩ := h.2 fuel cs x hx
    exact ⟨a, h1, hw a h2, fun h => hs a (h4 h), Nat.le_trans (hm a) h3⟩⟩
theorem Fits.left {a b : List Nat} (h : Fits (a ++ b)) : Fits a := fun n hn => h n (List.mem_append_left _ hn)
theorem Fits.right {a b : List Nat} (h : Fits (a ++ b)) : Fits b := fun n hn => h n (List.mem_append_right _ hn)
theorem Fits.tail {n : Nat} {b : List Nat} (h : Fits (n :: b)) : Fits b := fun m hm => h m (List.mem_cons_of_mem _ hm)
theorem fits_all {e : TypeId} {l : List (DataW H)} (h : Fits (DataW.weightsAll P e l)) {d : DataW H} (hd : d ∈ l) : Fits (d.weights P e) := by
  induction l with
  | nil => cases hd
  | cons y r ih =>
    simp only [DataW.weightsAll] at h
    cases List.mem_cons.1 hd with
    | inl e => subst e; exact h.left
    | inr e => exact ih h.right e
theorem fits_each : ∀ {ts : List TypeId} {ds : List (DataW H)} {j : Nat} {t : TypeId} {d : DataW H}, Fits (DataW.weightsEach P ts ds) → ts[j]? = some t → ds[j]? = some d → Fits (d.weights P t)
  | [], _, _, _, _, _, ht, _ => by simp at ht
  | _ :: _, [], _, _, _, _, _, hd => by simp at hd
  | t :: ts, d :: ds, j, _, _, h, ht, hd => by
    simp only [DataW.weightsEach] at h
    cases j with
    | zero =>
      simp only [List.getElem?_cons_zero, Option.some.injEq] at ht hd
      subst ht hd
      exact h.left
    | succ j => exact fits_each h.right (by simpa using ht) (by simpa using hd)
theorem opf_one {n : Nat} {f : Field} {off : Nat} {k : Kd α} {Wf Sz : α → Prop} {m : α → Nat} (h : Opens enc P w base spare held f.type k Wf Sz m) (ho : f.offset = off) (hn : off + P.cellsOf f.type = n) : OpF enc P w base spare held n [f] off k Wf Sz m := by
  intro fuel cs xs hcl hxl hx
  obtain ⟨x, rfl⟩ : ∃ x, xs = [x] := by
    match xs, hxl with
    | [x], _ => exact ⟨x, rfl⟩
  have h0 := hx 0 f rfl
  rw [ho, List.take_of_length_le (by rw [List.length_drop]; omega)] at h0
  obtain ⟨a, h1, h2, h4, h3⟩ := h.2 fuel _ x h0
  exact ⟨a, h1, h2, fun h => h4 (fits_each h (j := 0) rfl rfl), by simpa using h3⟩
theorem opf_cons {n : Nat} {f : Field} {fs : List Field} {off : Nat} {k : Kd α} {k' : Kd β} {Wf Sz : α → Prop} {Wf' Sz' : β → Prop} {m : α → Nat} {m' : β → Nat} (h : Opens enc P w base spare held f.type k Wf Sz m) (ho : f.offset = off) (hr : OpF enc P w base spare held n fs (off + P.cellsOf f.type) k' Wf' Sz' m') :
    OpF enc P w base spare held n (f :: fs) off (Kd.pair k k') (fun x => Wf x.1 ∧ Wf' x.2) (fun x => Sz x.1 ∧ Sz' x.2) (fun x => m x.1 + m' x.2) := by
  intro fuel cs xs hcl hxl hx
  obtain ⟨x, xs, rfl⟩ : ∃ x r, xs = x :: r := by
    match xs, hxl with
    | x :: r, _ => exact ⟨x, r, rfl⟩
  have h0 := hx 0 f rfl
  rw [ho] at h0
  obtain ⟨a, h1, h2, h4, h3⟩ := h.2 fuel _ x h0
  obtain ⟨b, k1, k2, k4, k3⟩ := hr fuel cs xs hcl (by simpa using hxl) (fun i g hg => by have := hx (i + 1) g (by simpa using hg); simpa using this)
  refine ⟨(a, b), ⟨_, _, ?_, h1, k1⟩, ⟨h2, k2⟩, fun h => ?_, ?_⟩
  · rw [← List.drop_drop, List.take_append_drop]
  · simp only [List.map_cons, DataW.weightsEach] at h
    exact ⟨h4 h.left, k4 h.right⟩
  · simp only [List.map_cons, List.sum_cons]; exact Nat.add_le_add h3 k3
theorem op_struct {t : TypeId} {fs : Array Field} {k : Kd α} {Wf Sz : α → Prop} {m : α → Nat} (ht : P.underlying t = some (.struct fs)) (hk : k.sz = P.cellsOf t) (h : OpF enc P w base spare held (P.cellsOf t) fs.toList 0 k Wf Sz m) :
    Opens enc P w base spare held t k Wf Sz (fun a => m a + 1) :=
  ⟨hk, fun fuel cs x hx => by
    obtain ⟨xs, n, rfl, rfl, hl, hlen, hall⟩ := DataW.trod_struct ht hx
    obtain ⟨a, h1, h2, h4, h3⟩ := h n cs xs hl (by simpa using hlen) (fun i f hf => hall i f (by simpa using hf))
    refine ⟨a, by simpa using h1, h2, fun h => h4 ?_, ?_⟩
    · simp only [DataW.weights, ht] at h
      exact h
    simp only [Rows.uptoBulk, bulkAll_sum, List.map_map]
    exact Nat.succ_le_succ h3⟩
theorem cells_at {a : Addr} {n : Nat} {cs : List Value} (h : w.cells? base a n = some cs) : cs.length = n ∧ ∀ i u, cs[i]? = some u → w.cell? (a.add i) = some u := by
  obtain ⟨h1, h2, h3⟩ := World.cells?_some h
  refine ⟨h2, fun i u hu => ?_⟩
  have hi : i < n := by rw [← h2]; exact (List.getElem?_eq_some_iff.1 hu).1
  rw [← hu]; exact h3 i hi
theorem choose_lt {δ : Type} {p : Nat → δ → Prop} {n : Nat} (h : ∀ i, i < n → ∃ x, p i x) : ∃ l : List δ, l.length = n ∧ ∀ i x, l[i]? = some x → p i x := by
  induction n with
  | zero => exact ⟨[], rfl, fun i x h => by simp at h⟩
  | succ n ih =>
    obtain ⟨l, h1, h2⟩ := ih (fun i hi => h i (by omega))
    obtain ⟨x, hx⟩ := h n (by omega)
    refine ⟨l ++ [x], by simp [h1], fun i y hy => ?_⟩
    rcases Nat.lt_or_ge i l.length with hi | hi
    · rw [List.getElem?_append_left hi] at hy; exact h2 i y hy
    · have he : i = n := by
        have := (List.getElem?_eq_some_iff.1 hy).1
        simp at this; omega
      subst he
      rw [List.getElem?_append_right hi, h1, Nat.sub_self] at hy
      simp at hy
      subst hy
      exact hx
theorem op_slice {t e : TypeId} {k : Kd α} {Wf Sz : α → Prop} {m : α → Nat} (ht : P.underlying t = some (.slice e)) (hc : P.cellsOf t = 1) (h : Opens enc P w base spare held e k Wf Sz m) :
    Opens enc P w base spare held t (Kd.slice e k) (fun l => ∀ x ∈ l, Wf x) (fun l => l.length * P.bytesOf e ≤ 140737488351232 ∧ ∀ x ∈ l, Sz x) (fun l => (l.map m).sum + 1) :=
  ⟨hc.symm, fun fuel cs x hx => by
    rcases open_slice ht hx with ⟨rfl, rfl⟩ | ⟨a, len, cap, mm, n, D, Pl, rfl, hb, hl, hm, hmm, rfl, hall⟩
    · refine ⟨[], ⟨none, 0, rfl, Nat.le_refl _, rfl, Nat.zero_le _, fun h => absurd h (Nat.lt_irrefl _)⟩, ?_, fun _ => ⟨by simp, fun x hx => by cases hx⟩, ?_⟩
      · intro x hx; cases hx
      · simp [Rows.uptoBulk]
    · have hle : len ≤ mm := by rw [hmm]; split <;> omega
      obtain ⟨l, l1, l2⟩ := choose_lt (n := len) (p := fun i y => ∃ c, w.cells? base (a.add (i * P.cellsOf e)) (P.cellsOf e) = some c ∧ k.K w y c ∧ Wf y ∧ (Fits ((D i).weights P e) → Sz y) ∧ m y ≤ Rows.uptoBulk (D i)) (fun i hi => by
        obtain ⟨c, c1, c2⟩ := hall i (by omega)
        obtain ⟨y, y1, y2, y4, y3⟩ := h.2 n c _ c2
        exact ⟨y, c, c1, y1, y2, y4, y3⟩)
      refine ⟨l, ⟨some a, cap, by rw [l1], by omega, l1.trans l1.symm, by unfold maxLen at hm; omega, fun _ => ⟨a, rfl, fun j p hj => ?_⟩⟩, fun y hy => ?_, fun hs => ?_, ?_⟩
      · obtain ⟨c, c1, c2, _⟩ := l2 j p hj
        obtain ⟨z1, z2⟩ := cells_at c1
        refine ⟨c, k.K_len c2, c2, fun i u hu => ?_⟩
        have := z2 i u hu
        rw [add_add] at this
        rw [h.1]
        exact this
      · obtain ⟨i, hi, rfl⟩ := List.getElem_of_mem hy
        obtain ⟨c, _, _, c3, _⟩ := l2 i _ (List.getElem?_eq_getElem hi)
        exact c3
      · simp only [DataW.weights, ht] at hs
        refine ⟨?_, fun y hy => ?_⟩
        · have := hs _ (List.mem_cons_self ..)
          rw [List.length_map, List.length_range] at this
          rw [l1]
          exact Nat.le_trans (Nat.mul_le_mul_right _ (Nat.le_add_right _ _)) this
        · obtain ⟨i, hi, rfl⟩ := List.getElem_of_mem hy
          obtain ⟨c, _, _, _, c4, _⟩ := l2 i _ (List.getElem?_eq_getElem hi)
          exact c4 (fits_all hs.tail.left (List.mem_map_of_mem (List.mem_range.2 (by rw [← l1]; exact hi))))
      · simp only [Rows.uptoBulk, bulkAll_sum, List.map_map]
        have hs : (l.map m).sum ≤ ((List.range len).map (Rows.uptoBulk ∘ D)).sum := by
          refine sum_le (by simp [l1]) (fun i x y hx hy => ?_)
          simp only [List.getElem?_map, Option.map_eq_some_iff] at hx hy
          obtain ⟨p, hp, rfl⟩ := hx
          obtain ⟨j, hj, rfl⟩ := hy
          obtain ⟨c, _, _, _, _, c4⟩ := l2 i p hp
          have : j = i := by
            rw [List.getElem?_eq_some_iff] at hj
            obtain ⟨q, hq⟩ := hj
            simpa using hq.symm
          subst this
          exact c4
        omega⟩
/-- An argument's cells, of the kind. -/
theorem Opens.open_ {t : TypeId} {k : Kd α} {Wf Sz : α → Prop} {m : α → Nat} {v : Value} {d : DataW H} {p : List MemPlace} (h : Opens enc P w base spare held t k Wf Sz m) (hd : DataW.Trod enc P w base spare held t v d p) : ∃ a, k.K w a v.cells.toList ∧ Wf a ∧ (Fits (d.weights P t) → Sz a) ∧ m a ≤ Rows.uptoBulk d := by
  obtain ⟨fuel, hf⟩ := hd
  exact h.2 fuel _ _ hf
theorem fits_of {l : List Nat} (h : l.all (· ≤ reachBytes) = true) : Fits l := fun n hn => of_decide_eq_true (List.all_eq_true.1 h n hn)
end
end Go.Proofs.YtdjmahmbofhnpaaDoor.Open
