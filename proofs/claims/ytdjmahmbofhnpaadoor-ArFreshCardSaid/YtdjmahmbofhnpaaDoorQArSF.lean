/- What ar.Read answers, in plain words; and what its walk keeps: the parts' row, the names that were seen, the places by number. -/
import Derived.Test.YtdjmahmbofhnpaaDoorQArIKF
import Derived.Maps.OwnSet
import Derived.Maps.Keyed
import Derived.WalkArith
namespace Go.Proofs.YtdjmahmbofhnpaaDoor.Ar
open Go.RowKit Go.Maps Go.WideMaps Go.Proofs.YtdjmahmbofhnpaaDoorW.PrintWords Go.Proofs.YtdjmahmbofhnpaaDoorW.PrintLast Go.Proofs.YtdjmahmbofhnpaaDoor.QAr
set_option linter.unusedVariables false
set_option linter.unusedSimpArgs false
def slashS : ByteArray := ⟨#[47]⟩
/-- A name without the / at its end. -/
def trimSfx (s : ByteArray) : ByteArray := if 1 ≤ s.size ∧ s.extract (s.size - 1) s.size = slashS then s.extract 0 (s.size - 1) else s
/-- One member more. -/
def memStep (st : Option (List S39)) (p : S64) : Option (List S39) :=
  match st with
  | none => none
  | some ms => if trimSfx p.f0 = p.f0 then none else if nameOk (trimSfx p.f0) && !(seenB (ms.map S39.f0) (trimSfx p.f0)) then some (ms ++ [⟨trimSfx p.f0, p.f2⟩]) else none
def memS (l : List S64) (k : Nat) : Option (List S39) := (l.take k).foldl memStep (some [])
/-- The last one of the first k that stands at a place. -/
def atN (l : List S64) (z : Int) : Nat → Option Nat
  | 0 => none
  | k + 1 => if (l.getD k z64).f1 = z then some k else atN l z k
/-- The index's entries; are all there? -/
def idxL (l : List S64) (ns : List ByteArray) (ps : List Int) : Nat → List S43 × Bool
  | 0 => ([], true)
  | k + 1 => ((idxL l ns ps k).1 ++ [⟨ns.getD k ⟨#[]⟩, (((atN l (ps.getD k 0) l.length).getD 0 : Nat) : Int)⟩], (idxL l ns ps k).2 && (atN l (ps.getD k 0) l.length).isSome)
def finS (f : Option (List Int)) (l : List S64) : List S39 × List S43 × Int :=
  match memS l l.length with
  | none => ([], [], 5)
  | some ms =>
    match f with
    | none => (ms, [], 0)
    | some f => if (indexS f).2.2 && (idxL l (indexS f).1 (indexS f).2.1 (indexS f).1.length).2 then (ms, (idxL l (indexS f).1 (indexS f).2.1 (indexS f).1.length).1, 0) else ([], [], 5)
/-- Read's answer. -/
def readS (b : List Int) : List S39 × List S43 × Int :=
  if 65536 < b.length then ([], [], 3) else
    if (partsS b).2 = 0 then
      match (partsS b).1 with
      | [] => finS none []
      | p :: r => if p.f0 = slashS then (if p.f2 = [] then ([], [], 5) else finS (some p.f2) r) else finS none (p :: r)
    else ([], [], (partsS b).2)
theorem memStep_none (l : List S64) : l.foldl memStep none = none := by
  induction l with
  | nil => rfl
  | cons p r ih => exact ih
theorem memS_succ (l : List S64) (k : Nat) (h : k < l.length) : memS l (k + 1) = memStep (memS l k) (l.getD k z64) := by
  unfold memS
  rw [List.take_succ_eq_append_getElem h, List.foldl_append, List.getD_eq_getElem?_getD, List.getElem?_eq_getElem h]
  rfl
theorem memS_stop (l : List S64) (k : Nat) (h : memS l k = none) (hk : k ≤ l.length) : memS l l.length = none := by
  unfold memS at *
  rw [List.take_length, ← List.take_append_drop k l, List.foldl_append, h, memStep_none]
theorem memS_len (l : List S64) (k : Nat) (ms : List S39) (h : memS l k = some ms) : ms.length ≤ k := by
  have key : ∀ (l : List S64) (st r : List S39), l.foldl memStep (some st) = some r → r.length ≤ st.length + l.length := by
    intro l
    induction l with
    | nil => intro st r h; cases h; simp
    | cons p l ih =>
      intro st r h
      rw [List.foldl_cons] at h
      unfold memStep at h
      simp only [] at h
      split at h
      · have e := memStep_none l
        unfold memStep at e
        rw [e] at h; cases h
      · split at h
        · have e := ih _ _ (by unfold memStep; exact h); simp at e ⊢; omega
        · have e := memStep_none l
          unfold memStep at e
          rw [e] at h; cases h
  have := key _ _ _ h
  simp at this
  omega
theorem finS_bad (f : Option (List Int)) (l : List S64) (k : Nat) (h : memS l k = none) (hk : k ≤ l.length) : finS f l = ([], [], 5) := by unfold finS; rw [memS_stop l k h hk]
theorem lit_inj {y z : Int} (h : Lit.int .i64 y = Lit.int .i64 z) : y = z := by
  cases h
  rfl
theorem law3 : Keyed Tryd.prog 3 := int_keyed Tryd.underlying3
theorem wf3 {z : Int} (h1 : -9223372036854775808 ≤ z) (h2 : z ≤ 9223372036854775807) : (Lit.int .i64 z).wf = true := by
  exact WalkArith.wf_i64 ⟨h1, h2⟩
theorem keyOf3 {z : Int} (h1 : -9223372036854775808 ≤ z) (h2 : z ≤ 9223372036854775807) : keyOf Tryd.prog 3 (.int .i64 z) = some (.int .i64 z) := keyOf_int_mk Tryd.underlying3 (wf3 h1 h2)
def ielem (v : Value) : Option (DataW Unit × List MemPlace) :=
  match v with
  | .int .i64 n => some (.lit (.int .i64 n), [])
  | _ => none
theorem ielem_int {v : Value} {ps : List MemPlace} {n : Int} (h : ielem v = some (.lit (.int .i64 n), ps)) : v = .int .i64 n := by
  unfold ielem at h
  split at h
  · rename_i c
    simp at h
    rw [h.1]
  · cases h
theorem zero3 (w : World) : (zeroValue 3).run Tryd.prog w = .ok (.int .i64 0) w := by kernel_rfl
def MapI (wr : World) (B : Nat) (l : List S64) (k : Nat) : Prop := ∃ D, wr.ownsMap Tryd.prog 3 ielem B k D ∧ IsMap D ∧ ∀ (z : Int) (zd : DataW Unit), D.atKey (.int .i64 z) zd = match atN l z k with | none => zd | some i => .lit (.int .i64 ((i : Nat) : Int))
theorem MapI.grown {w w' : World} {b k : Nat} {l : List S64} {row : Option Nat} (h : MapI w b l k) (hg : w.grownBy w' row) (hne : some b ≠ row) : MapI w' b l k := by
  obtain ⟨D, h0, h2⟩ := h
  exact ⟨D, h0.kept hg hne, h2⟩
theorem MapB.grown {w w' : World} {b : Nat} {ns : List ByteArray} {row : Option Nat} (h : MapB w b ns) (hg : w.grownBy w' row) (hne : some b ≠ row) : MapB w' b ns := by
  obtain ⟨D, h0, h2⟩ := h
  exact ⟨D, h0.kept hg hne, h2⟩
theorem MapI.made (w : World) (l : List S64) : MapI (w.alloc (.map #[] 0)) w.heap.size l 0 := ⟨.map [], World.ownsMap_made _ _ _ _, isMap_empty, fun z zd => rfl⟩
theorem MapI.store {wr : World} {B k : Nat} {l : List S64} (h : MapI wr B l k) (hk : k < maxLen) (z : Int) (hz : (l.getD k z64).f1 = z) (h1 : -9223372036854775808 ≤ z) (h2 : z ≤ 9223372036854775807) :
    ∃ w2, (Instr.mapUpdate 54 (.map (some B)) (.int .i64 z) (.int .i64 (k : Int))).run Tryd.prog wr = .ok () w2 ∧ MapI w2 B l (k + 1) ∧ wr.mapTurned w2 B := by
  obtain ⟨D, h3, h4, h5⟩ := h
  obtain ⟨w2, r1, r2, r3⟩ := h3.store law3 Tryd.underlying54 hk (keyOf3 h1 h2) (val := .int .i64 (k : Int)) (d := .lit (.int .i64 (k : Int))) (ps := []) rfl
  refine ⟨w2, r1, ⟨_, r2, h4.put _ _, fun y zd => ?_⟩, r3⟩
  simp only [atN]
  rw [hz]
  by_cases hyz : z = y
  · subst hyz
    rw [atKey_put_same h4 (show WideAt.IsKeyLit (.int .i64 z) from trivial), if_pos rfl]
  · rw [atKey_put_other (fun h => hyz (lit_inj h).symm), h5, if_neg hyz]
theorem MapI.look {wr : World} {B k : Nat} {l : List S64} (h : MapI wr B l k) {z : Int} (h1 : -9223372036854775808 ≤ z) (h2 : z ≤ 9223372036854775807) :
    (Instr.lookup 54 (.map (some B)) (.int .i64 z) true).run Tryd.prog wr = .ok (.tuple #[.int .i64 (((atN l z k).getD 0 : Nat) : Int), .bool (atN l z k).isSome]) wr := by
  obtain ⟨D, h3, h4, h5⟩ := h
  obtain ⟨v, q, hrun, hv⟩ := h3.look_ok law3 Tryd.underlying54 (zero3 wr) (zd := .lit (.int .i64 0)) (zp := []) rfl (keyOf3 h1 h2)
  have h6 := h5 z
  rw [h6] at hv
  cases ha : atN l z k with
  | none =>
    rw [ha] at hv h6
    rw [hrun, ielem_int hv, Maps.has_false_of_atKey h6]
    rfl
  | some i =>
    rw [ha] at hv h6
    rw [hrun, ielem_int hv, Maps.has_true_of_atKey h6]
    rfl
/-- The parts as they lie in a world, with rows of the call's own. -/
def PR (w : World) (base : Nat) (A : Option Addr) (xs : List S64) : Prop := ReadsRow (k64.M w base (fun _ => True)) 3 w A xs.length xs
theorem PR.of {w : World} {base e : Nat} {v : Value} {xs : List S64} (h : k64.R e w base (fun _ => True) v xs) : ∃ A c, v = .slice A xs.length c ∧ xs.length ≤ c ∧ PR w base A xs := by
  obtain ⟨A, c, he, hl, hr⟩ := OwnRow.reads h.2
  exact ⟨A, c, he, hl, hr.imp_ (Below.refl _ _) (fun _ _ hp => k64.M_mono (fun _ _ => trivial) hp)⟩
theorem PR.below {w w1 : World} {base : Nat} {A : Option Addr} {xs : List S64} (h : PR w base A xs) (hb : Below w.heap.size w w1) : PR w1 base A xs :=
  ReadsRow.imp_ h hb (fun _ _ hp => Kd.M_step hp (fun k _ hk => hb.block k hk))
theorem PR.drop {w : World} {base c : Nat} {A : Option Addr} {xs : List S64} (h : PR w base A xs) (hm : 1 ≤ xs.length) (hc : xs.length ≤ c) : PR w base (if c = 1 then A else A.map (·.add (1 * 3))) (xs.drop 1) := by
  have hl : (xs.drop 1).length = xs.length - 1 := List.length_drop
  refine ⟨rfl, by rw [hl]; have := h.2.1; omega, fun hp => ?_⟩
  rw [hl] at hp
  obtain ⟨ad, rfl, hcell⟩ := h.2.2 (by omega)
  rw [if_neg (by omega)]
  refine ⟨ad.add (1 * 3), rfl, fun j p hj => ?_⟩
  rw [List.getElem?_drop] at hj
  obtain ⟨cs, h1, h2, h3⟩ := hcell (1 + j) p hj
  refine ⟨cs, h1, h2, fun i u hu => ?_⟩
  rw [add_add, show 1 * 3 + (j * 3 + i) = (1 + j) * 3 + i by omega]
  exact h3 i u hu
theorem PR.at_ {w : World} {base : Nat} {A : Option Addr} {xs : List S64} (h : PR w base A xs) (i : Nat) (hi : i < xs.length) :
    ∃ ad v2, A = some ad ∧ w.cell? (ad.add (i * 3)) = some (.string (xs.getD i z64).f0) ∧ w.cell? ⟨(ad.add (i * 3)).block, (ad.add (i * 3)).off + 1, none⟩ = some (.int .i64 (xs.getD i z64).f1) ∧ w.cell? ⟨(ad.add (i * 3)).block, (ad.add (i * 3)).off + 2, none⟩ = some v2 ∧ (Kd.int .u8).R 5 w base (fun _ => True) v2 (xs.getD i z64).f2 := by
  obtain ⟨ad, c, e, hs, hR, hc⟩ := ReadsRow.get_ h z64 (i : Int) (by omega) (by omega)
  rw [Int.toNat_natCast] at hR hc
  obtain ⟨v2, rfl, hv⟩ := k64_openM hR
  refine ⟨ad, v2, e, hc 0 _ rfl, ?_, ?_, hv⟩
  · rw [← add_field _ _ 1 (by omega)]; exact hc 1 _ rfl
  · rw [← add_field _ _ 2 (by omega)]; exact hc 2 _ rfl
/-- The parts as they lie in a world, with rows of the call's own. -/
def PRf (w : World) (base : Nat) (A : Option Addr) (xs : List S64) : Prop := ReadsRow (k64f.M w base (fun _ => True)) 3 w A xs.length xs
theorem PRf.of {w : World} {base e : Nat} {v : Value} {xs : List S64} (h : k64f.R e w base (fun _ => True) v xs) : ∃ A c, v = .slice A xs.length c ∧ xs.length ≤ c ∧ PRf w base A xs := by
  obtain ⟨A, c, he, hl, hr⟩ := OwnRow.reads h.2
  exact ⟨A, c, he, hl, hr.imp_ (Below.refl _ _) (fun _ _ hp => k64f.M_mono (fun _ _ => trivial) hp)⟩
theorem PRf.below {w w1 : World} {base : Nat} {A : Option Addr} {xs : List S64} (h : PRf w base A xs) (hb : Below w.heap.size w w1) : PRf w1 base A xs :=
  ReadsRow.imp_ h hb (fun _ _ hp => Kd.M_step hp (fun k _ hk => hb.block k hk))
theorem PRf.drop {w : World} {base c : Nat} {A : Option Addr} {xs : List S64} (h : PRf w base A xs) (hm : 1 ≤ xs.length) (hc : xs.length ≤ c) : PRf w base (if c = 1 then A else A.map (·.add (1 * 3))) (xs.drop 1) := by
  have hl : (xs.drop 1).length = xs.length - 1 := List.length_drop
  refine ⟨rfl, by rw [hl]; have := h.2.1; omega, fun hp => ?_⟩
  rw [hl] at hp
  obtain ⟨ad, rfl, hcell⟩ := h.2.2 (by omega)
  rw [if_neg (by omega)]
  refine ⟨ad.add (1 * 3), rfl, fun j p hj => ?_⟩
  rw [List.getElem?_drop] at hj
  obtain ⟨cs, h1, h2, h3⟩ := hcell (1 + j) p hj
  refine ⟨cs, h1, h2, fun i u hu => ?_⟩
  rw [add_add, show 1 * 3 + (j * 3 + i) = (1 + j) * 3 + i by omega]
  exact h3 i u hu
theorem PRf.at_ {w : World} {base : Nat} {A : Option Addr} {xs : List S64} (h : PRf w base A xs) (i : Nat) (hi : i < xs.length) :
    ∃ ad v2, A = some ad ∧ w.cell? (ad.add (i * 3)) = some (.string (xs.getD i z64).f0) ∧ w.cell? ⟨(ad.add (i * 3)).block, (ad.add (i * 3)).off + 1, none⟩ = some (.int .i64 (xs.getD i z64).f1) ∧ w.cell? ⟨(ad.add (i * 3)).block, (ad.add (i * 3)).off + 2, none⟩ = some v2 ∧ RF w base (fun _ => True) v2 (xs.getD i z64).f2 := by
  obtain ⟨ad, c, e, hs, hR, hc⟩ := ReadsRow.get_ h z64 (i : Int) (by omega) (by omega)
  rw [Int.toNat_natCast] at hR hc
  obtain ⟨v2, rfl, hv⟩ := k64f_openM hR
  refine ⟨ad, v2, e, hc 0 _ rfl, ?_, ?_, hv⟩
  · rw [← add_field _ _ 1 (by omega)]; exact hc 1 _ rfl
  · rw [← add_field _ _ 2 (by omega)]; exact hc 2 _ rfl
/-- A row of cells stays where a map turns. -/
theorem R_mapped {α : Type} {d : Kd α} {e base b : Nat} {w w1 : World} {ok : Nat → Prop} {v : Value} {xs : List α} (h : d.R e w base ok v xs) (ht : w.mapTurned w1 b) : d.R e w1 base ok v xs := by
  refine Kd.R_mono (Kd.R_move (Kd.R_bound h) (fun k hk => ht.grown.block k hk.2.2.1 (fun he => ?_))) (fun _ hk => hk.1)
  obtain ⟨_, _, _, q, hq, cells, hc⟩ := hk
  cases he
  obtain ⟨es, clock, es', clock', hb, _⟩ := ht
  rw [hc] at hb
  cases hb
theorem map_ne_row {α : Type} {d : Kd α} {e base b : Nat} {w : World} {ok : Nat → Prop} {v : Value} {xs : List α} {es : Array MapEntry} {clock : Nat} (h : d.R e w base ok v xs) (hb : w.heap[b]? = some (.map es clock)) : some b ≠ v.ownBlock := by
  intro he
  obtain ⟨cells, hc⟩ := Kd.R_typed h b he.symm
  rw [hc] at hb
  cases hb
theorem MapB.ne_row {α : Type} {d : Kd α} {e base b : Nat} {w : World} {ok : Nat → Prop} {v : Value} {xs : List α} {ns : List ByteArray} (h : d.R e w base ok v xs) (hm : MapB w b ns) : some b ≠ v.ownBlock := by
  obtain ⟨D, ⟨es, clock, hb, _⟩, _⟩ := hm
  exact map_ne_row h hb
theorem MapI.ne_row {α : Type} {d : Kd α} {e base b k : Nat} {w : World} {ok : Nat → Prop} {v : Value} {xs : List α} {l : List S64} (h : d.R e w base ok v xs) (hm : MapI w b l k) : some b ≠ v.ownBlock := by
  obtain ⟨D, ⟨es, clock, hb, _⟩, _⟩ := hm
  exact map_ne_row h hb
/-- What the loop over members keeps. W: the world before the maps were made. -/
structure RdSt (W wr : World) (base b9 b10 : Nat) (l : List S64) (k : Nat) (ms : List S39) (v : Value) : Prop where
  is : memS l k = some ms
  below : Below W.heap.size W wr
  map : MapI wr b9 l k
  seen : MapB wr b10 (ms.map S39.f0)
  row : k39f.R 39 wr base (fun _ => True) v ms
  two : W.heap.size + 2 ≤ wr.heap.size
  own : ∀ g, v.ownBlock = some g → W.heap.size ≤ g
theorem RdSt.to {W wr w' : World} {base b9 b10 k : Nat} {l : List S64} {ms : List S39} {v : Value} (h : RdSt W wr base b9 b10 l k ms v) (hb : Below wr.heap.size wr w') : RdSt W w' base b9 b10 l k ms v :=
  ⟨h.is, h.below.trans (hb.mono h.below.size), h.map.grown (grown_of_below hb none) (by simp), h.seen.below hb, Kd.R_below h.row hb, Nat.le_trans h.two hb.size, h.own⟩
theorem RdSt.start {W : World} {base : Nat} (l : List S64) : RdSt W ((W.alloc (.map #[] 0)).alloc (.map #[] 0)) base W.heap.size (W.heap.size + 1) l 0 [] (.slice none 0 0) :=
  ⟨rfl, ((Below.refl _ _).alloc (Nat.le_refl _) _).alloc (by simp) _, (MapI.made W l).grown (World.grownBy_alloc _ _ none) (by simp), by have h := MapB.made (W.alloc (.map #[] 0)); simpa using h, Kd.R_nil _ _ _ _ _, by simp, by intro g hg; simp [Value.ownBlock] at hg⟩
theorem RdSt.push {W w8 w9 : World} {base b9 b10 k : Nat} {l : List S64} {ms : List S39} {m : S39} {v v1 : Value} (his : memS l (k + 1) = some (ms ++ [m])) (hb : Below W.heap.size W w8) (hm : MapI w8 b9 l (k + 1)) (hs : MapB w8 b10 (ms.map S39.f0 ++ [m.f0])) (hr8 : k39f.R 39 w8 base (fun _ => True) v ms) (htwo : W.heap.size + 2 ≤ w8.heap.size) (hown : ∀ g, v.ownBlock = some g → W.heap.size ≤ g)
    (hr : k39f.R 39 w9 base (fun _ => True) v1 (ms ++ [m])) (hg : w8.grownBy w9 v.ownBlock) (hat : v1.ownBlock = v.ownBlock ∨ ∃ b, v1.ownBlock = some b ∧ w8.heap.size ≤ b) : RdSt W w9 base b9 b10 l (k + 1) (ms ++ [m]) v1 :=
  ⟨his, pw_below_grown hb _ hb.size hg hown, hm.grown hg (MapI.ne_row hr8 hm), by rw [List.map_append]; exact hs.grown hg (MapB.ne_row hr8 hs), hr, Nat.le_trans htwo hg.size, fun g h => by
    rcases hat with e | ⟨b, e, hle⟩
    · rw [e] at h; exact hown g h
    · rw [e] at h; cases h; have := hb.size; omega⟩
end Go.Proofs.YtdjmahmbofhnpaaDoor.Ar
