/- slices.SortFunc over pointers to entries, by the library's contract; syms.gather by contract: the entries in the order of their names' bytes. -/
import Derived.Test.YtchkjfokoenlnaaQSyG1
import Derived.Test.YtchkjfokoenlnaaQShelf
namespace Go.Proofs.Ytchkjfokoenlnaa.Sym
open Go.RowKit Go.Maps Go.WideMaps Go.Sort Go.Shelf Go.Proofs.YtchkjfokoenlnaaW.PrintWords Go.Proofs.YtchkjfokoenlnaaW.PrintLast Go.Proofs.Ytchkjfokoenlnaa.QSy
set_option linter.unusedVariables false
set_option linter.unusedSimpArgs false
def cmpN (a b : ByteArray) : Int := Lib.compareBytes a.data.toList b.data.toList
def ltN (a b : ByteArray) : Bool := decide (cmpN a b < 0)
/-- The closure: it compares the names of two entries. -/
theorem cmp_calls (p q : Nat) (a b : ByteArray) (w : World) (hp : w.cell? ⟨p, 0, none⟩ = some (.string a)) (hq : w.cell? ⟨q, 0, none⟩ = some (.string b)) :
    Calls Try.prog 35 #[.pointer (some ⟨p, 0, none⟩), .pointer (some ⟨q, 0, none⟩)] w fun e w' => e = .returned (.int .i64 (cmpN a b)) ∧ ∃ n, w' = w.drewN n := by
  have hc := fun W => Try.strings_Compare a b W
  obtain ⟨r, hr⟩ : ∃ r, Lib.compareBytes a.data.toList b.data.toList = r := ⟨_, rfl⟩
  unfold cmpN
  rw [hr] at hc ⊢
  clear hr
  go_enter Try.func35, Try.ntmps35
  go_wp2
  go_quiet ((go_at_call 36; exact Calls.quiet_of_same (hc _)))
  go_wp2
  go_ret
  exact ⟨rfl, _, rfl⟩
theorem cmpB_self (a : List UInt8) : Lib.compareBytes a a = 0 := by
  induction a with
  | nil => rfl
  | cons x a ih => simp only [Lib.compareBytes, UInt8.lt_irrefl, if_false]; exact ih
theorem cmpB_eq {a b : List UInt8} (h : Lib.compareBytes a b = 0) : a = b := by
  induction a generalizing b with
  | nil => cases b <;> simp [Lib.compareBytes] at h ⊢
  | cons x a ih =>
    cases b with
    | nil => simp [Lib.compareBytes] at h
    | cons y b =>
      simp only [Lib.compareBytes] at h
      split at h
      · simp at h
      · split at h
        · simp at h
        · rename_i h1 h2
          have : x = y := by
            rw [UInt8.lt_iff_toNat_lt] at h1 h2
            exact UInt8.toNat_inj.1 (by omega)
          rw [this, ih h]
theorem cmpB_swap (a b : List UInt8) : Lib.compareBytes a b = - Lib.compareBytes b a := by
  induction a generalizing b with
  | nil => cases b <;> simp [Lib.compareBytes]
  | cons x a ih =>
    cases b with
    | nil => simp [Lib.compareBytes]
    | cons y b =>
      simp only [Lib.compareBytes]
      by_cases h1 : x < y
      · have h2 : ¬ y < x := by rw [UInt8.lt_iff_toNat_lt] at *; omega
        simp [h1, h2]
      · by_cases h2 : y < x
        · simp [h1, h2]
        · simp [h1, h2, ih b]
theorem cmpB_trans {a b c : List UInt8} (h : Lib.compareBytes a b < 0) (k : Lib.compareBytes b c < 0) : Lib.compareBytes a c < 0 := by
  induction a generalizing b c with
  | nil =>
    cases b with
    | nil => simp [Lib.compareBytes] at h
    | cons y b => cases c <;> simp [Lib.compareBytes] at k ⊢
  | cons x a ih =>
    cases b with
    | nil => simp [Lib.compareBytes] at h
    | cons y b =>
      cases c with
      | nil => simp [Lib.compareBytes] at k
      | cons z c =>
        simp only [Lib.compareBytes, UInt8.lt_iff_toNat_lt] at h k ⊢
        by_cases h1 : x.toNat < y.toNat
        · by_cases k1 : y.toNat < z.toNat
          · rw [if_pos (by omega)]; decide
          · rw [if_neg k1] at k
            by_cases k2 : z.toNat < y.toNat
            · rw [if_pos k2] at k; simp at k
            · rw [if_pos (by omega)]; decide
        · rw [if_neg h1] at h
          by_cases h2 : y.toNat < x.toNat
          · rw [if_pos h2] at h; simp at h
          · rw [if_neg h2] at h
            by_cases k1 : y.toNat < z.toNat
            · rw [if_pos (by omega)]; decide
            · rw [if_neg k1] at k
              by_cases k2 : z.toNat < y.toNat
              · rw [if_pos k2] at k; simp at k
              · rw [if_neg k2] at k
                rw [if_neg (by omega), if_neg (by omega)]
                exact ih h k
theorem cmpN_eq {a b : ByteArray} (h : cmpN a b = 0) : a = b := by
  have := cmpB_eq h
  cases a; cases b
  simp only [Array.toList_inj] at this
  rw [this]
theorem cmpN_swap (a b : ByteArray) : cmpN a b = - cmpN b a := cmpB_swap _ _
theorem ltN_swo {α : Type} (f : α → ByteArray) : SWO (ltOf fun x y : α => cmpN (f x) (f y)) where
  irrefl x := by simp [ltOf, cmpN, cmpB_self]
  trans x y z h k := by
    simp only [ltOf, decide_eq_true_eq] at *
    exact cmpB_trans h k
  ntrans x y z h k := by
    simp only [ltOf, decide_eq_false_iff_not] at *
    intro hz
    by_cases e : cmpN (f x) (f y) = 0
    · have := cmpN_eq e; rw [this] at hz; exact k hz
    · by_cases e2 : cmpN (f y) (f z) = 0
      · have := cmpN_eq e2; rw [← this] at hz; exact h hz
      · have h1 : cmpN (f y) (f x) < 0 := by have := cmpN_swap (f x) (f y); omega
        have h2 := cmpB_trans h1 hz
        have : cmpN (f y) (f z) < 0 := h2
        exact k this
/-- The entries in the order of their names. -/
def sortE (es : List Ent) : List Ent := es.mergeSort fun a b => !(ltN b.name a.name)
theorem sortWorld_other {α : Type} [Inhabited α] (enc : α → Value) (w : World) (blk off n : Nat) (dk : Array α) (os : Array Obj) (k : Nat) (hk : k < w.heap.size) (hne : k ≠ blk) : (sortWorld enc w blk off n dk os).heap[k]? = w.heap[k]? := by
  simp only [sortWorld, grow, putRow, mapBlock, ahead]
  rw [Array.getElem?_append_left (by simpa using hk), Array.getElem?_modify, if_neg (by omega)]
  rfl
theorem sortWorld_below {α : Type} [Inhabited α] (enc : α → Value) (w0 w : World) (blk off n : Nat) (dk : Array α) (os : Array Obj) (B : Nat) (hB : B ≤ blk) (hb : Below B w0 w) (hblk : blk < w.heap.size) : Below B w0 (sortWorld enc w blk off n dk os) := by
  refine ⟨hb.os, hb.tape, hb.output, ?_, fun k hk => ?_⟩
  · have : w.heap.size ≤ (sortWorld enc w blk off n dk os).heap.size := by simp [sortWorld, grow, putRow, mapBlock, ahead]
    exact Nat.le_trans hb.size this
  · rw [← hb.block k hk]
    exact sortWorld_other enc w blk off n dk os k (by omega) (by omega)
theorem sortWorld_row {α : Type} [Inhabited α] (enc : α → Value) (w : World) (blk n : Nat) (dk : Array α) (os : Array Obj) (cs : Array Value) (t : TypeId) (hb : w.heap[blk]? = some (.cells cs t (0, 0))) : (sortWorld enc w blk 0 n dk os).heap[blk]? = some (.cells (putCells enc 0 dk cs) t (0, 0)) := by
  have hlt := (Array.getElem?_eq_some_iff.1 hb).1
  simp only [sortWorld, grow, putRow, mapBlock, ahead]
  rw [Array.getElem?_append_left (by simpa using hlt), Array.getElem?_modify, if_pos rfl]
  show Option.map _ w.heap[blk]? = _
  rw [hb]
  rfl
theorem putCells_take {α : Type} [Inhabited α] (enc : α → Value) (dk : Array α) (cs : Array Value) (h : dk.size ≤ cs.size) : (putCells enc 0 dk cs).toList.take dk.size = dk.toList.map enc := by
  refine List.ext_getElem (by simp [putCells]; omega) fun i h1 h2 => ?_
  have hi : i < dk.size := by simpa using h2
  simp [putCells, hi]
def leE (a b : Ent) : Bool := !(ltN b.name a.name)
theorem sort_fin (es : List Ent) : ((List.finRange es.length).mergeSort fun x y => !(ltN (es.get y).name (es.get x).name)).map es.get = sortE es := by
  have h := List.map_mergeSort (r := fun x y : Fin es.length => !(ltN (es.get y).name (es.get x).name)) (s := fun a b : Ent => !(ltN b.name a.name)) (f := es.get) (l := List.finRange es.length) (fun a _ b _ => rfl)
  rw [h]
  unfold sortE
  have e : (List.finRange es.length).map es.get = es := List.ext_getElem (by simp) fun i g1 g2 => by simp
  rw [e]
theorem toList_ofFn (n : Nat) : (Array.ofFn (n := n) id).toList = List.finRange n := by
  rw [Array.toList_ofFn]; rfl
set_option maxHeartbeats 1000000 in
theorem sort_calls (w0 w : World) (v : Value) (es : List Ent) (ps : List Nat) (hk : Keep w0 w v es ps) (hu : Uniq es) (hl : es.length ≤ 400) :
    Calls Try.prog 34 #[v, .func (.func 35) #[] #[]] w fun e w' => e = .returned (.tuple #[]) ∧ ∃ ps', Blks w0 w' (sortE es) ps' ∧ kptr.R 60 w' w0.heap.size (fun _ => True) v ps' ∧ Below w0.heap.size w0 w' := by
  obtain ⟨hlen, ho⟩ := Kd.own_of_R hk.row
  have hpl := hk.blks.1
  by_cases hz : ps.length = 0
  · have he : es = [] := List.length_eq_zero_iff.1 (by omega)
    have hp0 : ps = [] := List.length_eq_zero_iff.1 hz
    obtain ⟨A, c, rfl⟩ : ∃ A c, v = .slice A 0 c := by
      rcases ho with ⟨rfl, _⟩ | ⟨g, cap, cur, rfl, _⟩
      · exact ⟨_, _, rfl⟩
      · exact ⟨_, _, by rw [hz]⟩
    refine (AnyF.slices_SortFunc_none (P := Try.prog) (ρ := Try.sortE_ren) { Try.sortE with } A c (.func (.func 35) #[] #[]) w).mono fun e w' ⟨h1, h2⟩ => ?_
    subst h2 he hp0
    exact ⟨h1, [], by unfold sortE; rw [List.mergeSort_nil]; exact hk.blks, hk.row, hk.below⟩
  · rcases ho with ⟨rfl, h0⟩ | ⟨g, cap, cur, rfl, hg, hcell, hcap, hmax, hsz, htake⟩
    · exact absurd h0 hz
    · haveI : Inhabited (Fin es.length) := ⟨⟨0, by omega⟩⟩
      have hd : (Array.ofFn (n := es.length) id).size = ps.length := by rw [Array.size_ofFn, hpl]
      have hget : ∀ j : Fin es.length, ∃ p, ps[j.1]? = some p ∧ w0.heap.size ≤ p ∧ w.heap[p]? = some (.cells (encE (es.get j)).toArray 62 (0, 0)) := fun j => by
        have hj : j.1 < ps.length := by rw [hpl]; exact j.2
        have := hk.blks.2.2 j.1 (es.get j) ps[j.1] (by rw [List.getElem?_eq_getElem j.2]; rfl) (List.getElem?_eq_getElem hj)
        exact ⟨_, List.getElem?_eq_getElem hj, this⟩
      let enc : Fin es.length → Value := fun j => .pointer (some ⟨ps.getD j.1 0, 0, none⟩)
      have hat : ∀ j : Fin es.length, w.heap[ps.getD j.1 0]? = some (.cells (encE (es.get j)).toArray 62 (0, 0)) ∧ w0.heap.size ≤ ps.getD j.1 0 := fun j => by
        obtain ⟨p, h1, h2, h3⟩ := hget j
        rw [List.getD_eq_getElem?_getD, h1]
        exact ⟨h3, h2⟩
      have hne : ∀ j : Fin es.length, ps.getD j.1 0 ≠ g := fun j e => by
        have := (hat j).1
        rw [e, hcell] at this
        cases this
      have eg : ∀ args w, (callFunc 35 args).run Try.prog w = .ok (.enter 35 args) w := enters_of Try.func35 (by kernel_rfl) rfl
      have hglt := (Array.getElem?_eq_some_iff.1 hcell).1
      have hH : Holds enc w g 0 (Array.ofFn (n := es.length) id) := fun j hj => by
        have hj2 : j < ps.length := by rw [← hd]; exact hj
        have hj3 : j < es.length := by omega
        have hcur : cur[j]? = some (enc (Array.ofFn (n := es.length) id)[j]!) := by
          have h1 : (cur.toList.take (ps.length * 1))[j]? = (encs (fun b : Nat => Value.pointer (some ⟨b, 0, none⟩)) ps)[j]? := by rw [htake]
          rw [List.getElem?_take_of_lt (by omega)] at h1
          rw [← Array.getElem?_toList, h1]
          have : (Array.ofFn (n := es.length) id)[j]! = ⟨j, hj3⟩ := by
            rw [getElem!_pos _ j (by simpa using hj3)]; simp
          rw [this]
          show (ps.map _)[j]? = some (Value.pointer (some ⟨ps.getD j 0, 0, none⟩))
          rw [List.getElem?_map, List.getElem?_eq_getElem hj2, List.getD_eq_getElem?_getD, List.getElem?_eq_getElem hj2]
          rfl
        refine ⟨?_, ?_⟩
        · rw [Nat.zero_add, blk_cell hcell]; exact hcur
        · rw [Nat.zero_add]; exact blk_frozen hcell j
      have hcmp : CmpLays1 Try.prog 35 #[] enc (fun x y => cmpN (es.get x).name (es.get y).name) g 0 (Array.ofFn (n := es.length) id).size w := CmpReads.lays fun m os dk hs x y => by
        have hx : (sortWorld enc w g 0 m dk os).cell? ⟨ps.getD x.1 0, 0, none⟩ = some (.string (es.get x).name) := by
          have h1 := (hat x).1
          rw [← sortWorld_other enc w g 0 m dk os _ (Array.getElem?_eq_some_iff.1 h1).1 (hne x)] at h1
          exact blk_cell h1 0
        have hy : (sortWorld enc w g 0 m dk os).cell? ⟨ps.getD y.1 0, 0, none⟩ = some (.string (es.get y).name) := by
          have h1 := (hat y).1
          rw [← sortWorld_other enc w g 0 m dk os _ (Array.getElem?_eq_some_iff.1 h1).1 (hne y)] at h1
          exact blk_cell h1 0
        exact cmp_calls _ _ _ _ _ hx hy
      have hT : ∀ x y : Fin es.length, ltOf (fun x y => cmpN (es.get x).name (es.get y).name) x y = false → ltOf (fun x y => cmpN (es.get x).name (es.get y).name) y x = false → x = y := fun x y h k => by
        simp only [ltOf, decide_eq_false_iff_not] at h k
        have hs := cmpN_swap (es.get x).name (es.get y).name
        have hn : (es.get x).name = (es.get y).name := cmpN_eq (by omega)
        refine Fin.ext ?_
        have h1 : (es.map Ent.name)[x.1]? = some (es.get x).name := by rw [List.getElem?_map, List.getElem?_eq_getElem x.2]; rfl
        have h2 : (es.map Ent.name)[y.1]? = some (es.get x).name := by rw [List.getElem?_map, List.getElem?_eq_getElem y.2, hn]; rfl
        exact (List.getElem?_inj (List.getElem?_eq_some_iff.1 h1).1 hu).1 (h1.trans h2.symm)
      have hcon := Any.slices_SortFunc_total Try.sortE enc (fun _ => rfl) (fun x y => cmpN (es.get x).name (es.get y).name) (ltN_swo fun x => (es.get x).name) 35 #[] g 0 cap (Array.ofFn (n := es.length) id) w eg hcmp hH hglt (by rw [hd]; omega) hT
      rw [hd] at hcon
      refine hcon.mono fun e w' ⟨h1, n, os, h2⟩ => ?_
      subst h2
      refine ⟨h1, ?_⟩
      rw [toList_ofFn]
      obtain ⟨sg, hsg⟩ : ∃ sg, ((List.finRange es.length).mergeSort fun x y => !(ltOf (fun x y => cmpN (es.get x).name (es.get y).name) y x)) = sg := ⟨_, rfl⟩
      have hmap : sg.map es.get = sortE es := by rw [← sort_fin, ← hsg]; rfl
      have hperm : sg.Perm (List.finRange es.length) := by rw [← hsg]; exact List.mergeSort_perm _ _
      have hsl : sg.length = es.length := by rw [hperm.length_eq, List.length_finRange]
      rw [hsg]
      refine ⟨sg.map fun j => ps.getD j.1 0, ⟨by rw [← hmap]; simp, ?_, fun j e p he hp => ?_⟩, ?_, ?_⟩
      · have h0 : ((List.finRange es.length).map fun j => ps.getD j.1 0) = ps := by
          refine List.ext_getElem (by simp [hpl]) fun i g1 g2 => ?_
          simp [List.getD_eq_getElem?_getD, List.getElem?_eq_getElem g2]
        have := (hperm.map fun j => ps.getD j.1 0).nodup_iff.2 (by rw [h0]; exact hk.blks.2.1)
        exact this
      · rw [← hmap, List.getElem?_map] at he
        rw [List.getElem?_map] at hp
        cases hx : sg[j]? with
        | none => rw [hx] at he; cases he
        | some x =>
          rw [hx] at he hp
          simp only [Option.map_some, Option.some.injEq] at he hp
          subst he hp
          refine ⟨(hat x).2, ?_⟩
          rw [sortWorld_other enc w g 0 n _ os _ (Array.getElem?_eq_some_iff.1 (hat x).1).1 (hne x)]
          exact (hat x).1
      · refine Kd.R_of_own (enc := fun b : Nat => Value.pointer (some ⟨b, 0, none⟩)) ⟨by simp [encs], .inr ⟨g, cap, _, by simp [hsl, hpl], hg, sortWorld_row enc w g n _ os cur 60 hcell, by simp only [List.length_map]; omega, hmax, by simp [putCells, hsz], ?_⟩⟩ (fun _ _ => trivial)
        have h1 := putCells_take enc sg.toArray cur (by simp; omega)
        simp only [List.size_toArray] at h1
        rw [List.length_map, Nat.mul_one, h1]
        simp [encs, enc]
      · exact sortWorld_below enc w0 w g 0 n _ os _ hg hk.below hglt
end Go.Proofs.Ytchkjfokoenlnaa.Sym
