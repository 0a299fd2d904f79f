/- What syms.gather keeps in memory: a map of names to entries, a row of pointers to them, the entries' blocks. The words of its walk; and what a round makes of the entries (gstep). -/
import Derived.Test.YtchkjfokoenlnaaQSyx0
import Derived.Maps.OwnSet
import Derived.StringKeys
namespace Go.Proofs.Ytchkjfokoenlnaa.Sym
open Go.RowKit Go.Maps Go.WideMaps Go.Proofs.YtchkjfokoenlnaaW.PrintWords Go.Proofs.YtchkjfokoenlnaaW.PrintLast Go.Proofs.Ytchkjfokoenlnaa.QSy
set_option linter.unusedVariables false
/-- What is known of a name. -/
structure Ent where
  name : ByteArray
  obj : Int
  sym : Int
  own : Int
  rank : Int
  twice : Bool
  wanted : Bool
def encE (e : Ent) : List Value := [.string e.name, .int .i64 e.obj, .int .i64 e.sym, .int .i64 e.own, .int .i64 e.rank, .bool e.twice, .bool e.wanted]
/-- A pointer to a block. -/
def kptr : Kd Nat := Kd.scalar (fun b => .pointer (some ⟨b, 0, none⟩)) (fun _ => rfl)
def relem (v : Value) : Option (DataW Unit × List MemPlace) :=
  match v with
  | .pointer none => some (.nil, [])
  | .pointer (some a) => if a = ⟨a.block, 0, none⟩ then some (.lit (.int .i64 (a.block : Int)), []) else none
  | _ => none
def keyL (s : ByteArray) : Lit := .string s.data.toList
theorem keyL_inj {s t : ByteArray} (h : keyL s = keyL t) : s = t := by
  unfold keyL at h
  injection h with h
  cases s; cases t
  simp only [Array.toList_inj] at h
  rw [h]
theorem keyL_is (s : ByteArray) : WideAt.IsKeyLit (keyL s) := trivial
theorem law9 : Keyed Try.prog 9 := string_keyed Try.underlying9
theorem zero60 (w : World) : (zeroValue 60).run Try.prog w = .ok (.pointer none) w := by kernel_rfl
theorem keyOf9 {s : ByteArray} (h : s.size ≤ maxLen) : keyOf Try.prog 9 (.string s) = some (keyL s) := keyOf_string_mk Try.underlying9 h
/-- Where an entry of a name lies. -/
def lookP : List Ent → List Nat → ByteArray → Option Nat
  | e :: es, p :: ps, s => if e.name = s then some p else lookP es ps s
  | _, _, _ => none
def ptrD : Option Nat → DataW Unit
  | none => .nil
  | some p => .lit (.int .i64 (p : Int))
def ptrV : Option Nat → Value
  | none => .pointer none
  | some p => .pointer (some ⟨p, 0, none⟩)
theorem relem_ptr {v : Value} {ps : List MemPlace} {o : Option Nat} (h : relem v = some (ptrD o, ps)) : v = ptrV o := by
  unfold relem at h
  split at h
  · cases o with
    | none => rfl
    | some p => simp [ptrD] at h
  · rename_i a
    split at h
    · rename_i ha
      cases o with
      | none => simp [ptrD] at h
      | some p =>
        simp [ptrD] at h
        have : a.block = p := by omega
        rw [ha, this]
        rfl
    · cases h
  · cases h
theorem lookP_snoc {es : List Ent} {ps : List Nat} (hl : ps.length = es.length) (e : Ent) (p : Nat) (s : ByteArray) : lookP (es ++ [e]) (ps ++ [p]) s = match lookP es ps s with | some q => some q | none => if e.name = s then some p else none := by
  induction es generalizing ps with
  | nil =>
    have : ps = [] := List.length_eq_zero_iff.1 (by simpa using hl)
    subst this
    simp [lookP]
  | cons x es ih =>
    match ps, hl with
    | q :: ps, hl =>
      simp only [List.cons_append, lookP]
      split
      · rfl
      · exact ih (by simpa using hl)
theorem lookP_set {es : List Ent} {ps : List Nat} {j : Nat} {e e' : Ent} (hj : es[j]? = some e) (hn : e'.name = e.name) (s : ByteArray) : lookP (es.set j e') ps s = lookP es ps s := by
  induction es generalizing ps j with
  | nil => simp at hj
  | cons x es ih =>
    cases ps with
    | nil => cases j <;> simp [lookP]
    | cons q ps =>
      cases j with
      | zero =>
        simp only [List.getElem?_cons_zero, Option.some.injEq] at hj
        subst hj
        simp [lookP, hn]
      | succ j =>
        simp only [List.set_cons_succ, lookP]
        rw [ih (by simpa using hj)]
theorem lookP_some {es : List Ent} {ps : List Nat} {s : ByteArray} {p : Nat} (h : lookP es ps s = some p) : ∃ (j : Nat) (e : Ent), es[j]? = some e ∧ ps[j]? = some p ∧ e.name = s ∧ ∀ i x, i < j → es[i]? = some x → x.name ≠ s := by
  induction es generalizing ps with
  | nil => simp [lookP] at h
  | cons x es ih =>
    cases ps with
    | nil => simp [lookP] at h
    | cons q ps =>
      simp only [lookP] at h
      split at h
      · rename_i hx
        simp only [Option.some.injEq] at h
        subst h
        exact ⟨0, x, rfl, rfl, hx, fun i y hi => absurd hi (Nat.not_lt_zero _)⟩
      · rename_i hx
        obtain ⟨j, e, h1, h2, h3, h4⟩ := ih h
        refine ⟨j + 1, e, by simpa using h1, by simpa using h2, h3, fun i y hi hy => ?_⟩
        cases i with
        | zero => simp at hy; subst hy; exact hx
        | succ i => exact h4 i y (by omega) (by simpa using hy)
theorem lookP_none {es : List Ent} {ps : List Nat} {s : ByteArray} (hl : ps.length = es.length) (h : lookP es ps s = none) : ∀ x ∈ es, x.name ≠ s := by
  induction es generalizing ps with
  | nil => intro x hx; cases hx
  | cons x es ih =>
    match ps, hl with
    | q :: ps, hl =>
      simp only [lookP] at h
      split at h
      · cases h
      · rename_i hx
        intro y hy
        cases List.mem_cons.1 hy with
        | inl e => subst e; exact hx
        | inr e => exact ih (by simpa using hl) h y e
/-- The map, in whatever world. -/
def MapG (wr : World) (B : Nat) (es : List Ent) (ps : List Nat) : Prop := ∃ D, wr.ownsMap Try.prog 9 relem B es.length D ∧ IsMap D ∧ ∀ s, D.atKey (keyL s) .nil = ptrD (lookP es ps s)
theorem MapG.below {w w' : World} {b : Nat} {es : List Ent} {ps : List Nat} (h : MapG w b es ps) (hb : Below w.heap.size w w') : MapG w' b es ps := by
  obtain ⟨D, h0, h2⟩ := h
  have hlt := World.ownsMap.lt h0
  obtain ⟨es, clock, h1, F, hs, hD⟩ := h0
  exact ⟨D, ⟨es, clock, (hb.block b hlt).trans h1, F, hs, hD⟩, h2⟩
theorem MapG.moved {w w' : World} {b : Nat} {es : List Ent} {ps : List Nat} (h : MapG w b es ps) (hb : w'.heap[b]? = w.heap[b]?) : MapG w' b es ps := by
  obtain ⟨D, h0, h2⟩ := h
  obtain ⟨es, clock, h1, F, hs, hD⟩ := h0
  exact ⟨D, ⟨es, clock, hb.trans h1, F, hs, hD⟩, h2⟩
theorem MapG.look {wr : World} {B : Nat} {es : List Ent} {ps : List Nat} (h : MapG wr B es ps) {s : ByteArray} (hs : s.size ≤ maxLen) :
    (Instr.lookup 91 (.map (some B)) (.string s) false).run Try.prog wr = .ok (ptrV (lookP es ps s)) wr := by
  obtain ⟨D, h1, h2, h3⟩ := h
  obtain ⟨v, q, hrun, hv⟩ := h1.lookup law9 Try.underlying91 (zero60 wr) (zd := .nil) (zp := []) rfl (keyOf9 hs)
  rw [h3 s] at hv
  rw [hrun, relem_ptr hv]
theorem MapG.store {wr : World} {B : Nat} {es : List Ent} {ps : List Nat} (h : MapG wr B es ps) (hl : ps.length = es.length) (e : Ent) (p : Nat) (hs : e.name.size ≤ maxLen) (hk : es.length < maxLen) (hn : lookP es ps e.name = none) :
    ∃ w2, (Instr.mapUpdate 91 (.map (some B)) (.string e.name) (.pointer (some ⟨p, 0, none⟩))).run Try.prog wr = .ok () w2 ∧ MapG w2 B (es ++ [e]) (ps ++ [p]) ∧ wr.mapTurned w2 B := by
  obtain ⟨D, h1, h2, h3⟩ := h
  obtain ⟨w2, r1, r2, r3⟩ := h1.store law9 Try.underlying91 hk (keyOf9 hs) (val := .pointer (some ⟨p, 0, none⟩)) (d := .lit (.int .i64 (p : Int))) (ps := []) (by simp [relem])
  refine ⟨w2, r1, ⟨_, by rw [List.length_append, List.length_singleton]; exact r2, h2.put _ _, fun s => ?_⟩, r3⟩
  rw [lookP_snoc hl]
  by_cases hse : e.name = s
  · subst hse
    rw [atKey_put_same h2 (keyL_is _), hn, if_pos rfl]
    rfl
  · rw [atKey_put_other (fun h => hse (keyL_inj h).symm), h3]
    cases lookP es ps s with
    | some q => rfl
    | none => rw [if_neg hse]
theorem MapG.made (w : World) : MapG (w.alloc (.map #[] 0)) w.heap.size [] [] := ⟨.map [], World.ownsMap_made _ _ _ _, isMap_empty, fun s => rfl⟩
/-- The entries' blocks. -/
def Blks (w0 wr : World) (es : List Ent) (ps : List Nat) : Prop :=
  ps.length = es.length ∧ ps.Nodup ∧ ∀ (j : Nat) (e : Ent) (p : Nat), es[j]? = some e → ps[j]? = some p → w0.heap.size ≤ p ∧ wr.heap[p]? = some (.cells (encE e).toArray 62 (0, 0))
theorem Blks.moved {w0 w w' : World} {es : List Ent} {ps : List Nat} (h : Blks w0 w es ps) (hm : ∀ (k : Nat) (c : Array Value), w.heap[k]? = some (Obj.cells c 62 (0, 0)) → w'.heap[k]? = w.heap[k]?) : Blks w0 w' es ps :=
  ⟨h.1, h.2.1, fun j e p h1 h2 => ⟨(h.2.2 j e p h1 h2).1, (hm p _ (h.2.2 j e p h1 h2).2).trans (h.2.2 j e p h1 h2).2⟩⟩
theorem Blks.below {w0 w w' : World} {es : List Ent} {ps : List Nat} (h : Blks w0 w es ps) (hb : Below w.heap.size w w') : Blks w0 w' es ps := h.moved (fun k c hk => hb.block k (Array.getElem?_eq_some_iff.1 hk).1)
theorem Blks.snoc {w0 w : World} {es : List Ent} {ps : List Nat} (h : Blks w0 w es ps) (e : Ent) (p : Nat) (hp : w0.heap.size ≤ p) (hb : w.heap[p]? = some (.cells (encE e).toArray 62 (0, 0))) (hn : p ∉ ps) : Blks w0 w (es ++ [e]) (ps ++ [p]) := by
  refine ⟨by simp [h.1], ?_, fun j x q h1 h2 => ?_⟩
  · rw [List.nodup_append]
    exact ⟨h.2.1, by simp, fun a ha b hb => by simp at hb; subst hb; exact fun e => hn (e ▸ ha)⟩
  · rcases Nat.lt_or_ge j es.length with hj | hj
    · rw [List.getElem?_append_left hj] at h1
      rw [List.getElem?_append_left (by rw [h.1]; exact hj)] at h2
      exact h.2.2 j x q h1 h2
    · rw [List.getElem?_append_right hj] at h1
      rw [List.getElem?_append_right (by rw [h.1]; exact hj), h.1] at h2
      have hz : j - es.length = 0 := by
        have := (List.getElem?_eq_some_iff.1 h1).1
        simpa using this
      rw [hz] at h1 h2
      simp at h1 h2
      subst h1 h2
      exact ⟨hp, hb⟩
/-- An entry is another one now. -/
theorem Blks.set_ {w0 w w' : World} {es : List Ent} {ps : List Nat} (h : Blks w0 w es ps) {j p : Nat} {e e' : Ent} (hj : es[j]? = some e) (hp : ps[j]? = some p) (hk : KeepBut w w' p none) (hb : w'.heap[p]? = some (.cells (encE e').toArray 62 (0, 0))) : Blks w0 w' (es.set j e') ps := by
  refine ⟨by simp [h.1], h.2.1, fun i x q h1 h2 => ?_⟩
  by_cases hij : j = i
  · subst hij
    have hlt := (List.getElem?_eq_some_iff.1 hj).1
    rw [List.getElem?_set_self hlt] at h1
    rw [hp] at h2
    simp at h1 h2
    subst h1 h2
    exact ⟨(h.2.2 j e p hj hp).1, hb⟩
  · rw [List.getElem?_set_ne hij] at h1
    have hq := h.2.2 i x q h1 h2
    have hne : q ≠ p := fun e => hij (by
      subst e
      exact (List.getElem?_inj (List.getElem?_eq_some_iff.1 hp).1 h.2.1).1 (hp.trans h2.symm))
    exact ⟨hq.1, hk.blk hq.2 hne (by simp)⟩
/-- What a symbol says. -/
def rankOf (s : S47) : Int := if s.f6 = -1 then 0 else if s.f6 = -3 then 2 else if s.f3 = 1 then 3 else 1
/-- What a symbol makes of its name's entry. -/
def upd (e : Ent) (i k : Int) (s : S47) : Ent :=
  let r := rankOf s
  let e1 := { e with wanted := e.wanted || (r == 0 && s.f3 == 1), twice := e.twice || (r == 3 && e.rank == 3) }
  if e.rank < r then { e1 with rank := r, obj := i, sym := k, own := -1 } else e1
def freshE (n : ByteArray) : Ent := ⟨n, -1, 0, -1, 0, false, false⟩
def hasE (es : List Ent) (n : ByteArray) : Bool := es.any (fun e => decide (e.name = n))
def updAll (es : List Ent) (i k : Int) (s : S47) : List Ent := es.map fun e => if e.name = s.f0 then upd e i k s else e
/-- What a symbol makes of the entries. -/
def gstep (es : List Ent) (i k : Int) (s : S47) : List Ent :=
  if s.f3 = 0 then es else updAll (if hasE es s.f0 then es else es ++ [freshE s.f0]) i k s
/-- Each name has one entry. -/
def Uniq (es : List Ent) : Prop := (es.map Ent.name).Nodup
theorem upd_name (e : Ent) (i k : Int) (s : S47) : (upd e i k s).name = e.name := by unfold upd; simp only; split <;> rfl
theorem updAll_set {es : List Ent} (hu : Uniq es) {j : Nat} {e : Ent} (hj : es[j]? = some e) {s : S47} (hn : e.name = s.f0) (i k : Int) : updAll es i k s = es.set j (upd e i k s) := by
  unfold updAll
  refine List.ext_getElem? fun m => ?_
  rw [List.getElem?_map]
  by_cases hm : j = m
  · subst hm
    rw [List.getElem?_set_self (List.getElem?_eq_some_iff.1 hj).1, hj]
    simp [hn]
  · rw [List.getElem?_set_ne hm]
    cases hx : es[m]? with
    | none => rfl
    | some x =>
      have hne : x.name ≠ s.f0 := fun h => hm (by
        have h1 : (es.map Ent.name)[j]? = some s.f0 := by rw [List.getElem?_map, hj]; simp [hn]
        have h2 : (es.map Ent.name)[m]? = some s.f0 := by rw [List.getElem?_map, hx]; simp [h]
        exact (List.getElem?_inj (List.getElem?_eq_some_iff.1 h1).1 hu).1 (h1.trans h2.symm))
      simp [hne]
theorem hasE_iff {es : List Ent} {n : ByteArray} : hasE es n = true ↔ ∃ e ∈ es, e.name = n := by unfold hasE; simp
theorem uniq_snoc {es : List Ent} (hu : Uniq es) {e : Ent} (h : hasE es e.name = false) : Uniq (es ++ [e]) := by
  unfold Uniq
  rw [List.map_append, List.nodup_append]
  refine ⟨hu, by simp, fun a ha b hb => ?_⟩
  simp at hb; subst hb
  obtain ⟨x, hx, rfl⟩ := List.mem_map.1 ha
  intro heq
  have : hasE es e.name = true := hasE_iff.2 ⟨x, hx, heq⟩
  rw [h] at this; cases this
theorem uniq_upd {es : List Ent} (hu : Uniq es) (i k : Int) (s : S47) : Uniq (updAll es i k s) := by
  unfold Uniq updAll
  rw [List.map_map]
  have : (Ent.name ∘ fun e : Ent => if e.name = s.f0 then upd e i k s else e) = Ent.name := by
    funext e
    simp only [Function.comp]
    split
    · exact upd_name ..
    · rfl
  rw [this]; exact hu
theorem uniq_step {es : List Ent} (hu : Uniq es) (i k : Int) (s : S47) : Uniq (gstep es i k s) := by
  unfold gstep
  split
  · exact hu
  · split
    · exact uniq_upd hu ..
    · rename_i h
      exact uniq_upd (uniq_snoc hu (e := freshE s.f0) (by rw [Bool.not_eq_true] at h; exact h)) ..
end Go.Proofs.Ytchkjfokoenlnaa.Sym
