/- A region that draws its order, in which operations read and call quietly, one makes a block whenever it comes up, and a last one is behind all: it is walked once. No condition. -/
import Derived.StillTailTactics
namespace Go.Proofs.Ytadbonmkockakaa.Lone
open Go
set_option linter.unusedVariables false
set_option linter.unusedSimpArgs false
section
variable {P : Program} {ops : Array Oper} {md : Region.Mode} {S : World → Prop}

/-- One value in each world that is let in; a call hands it back and leaves the world as it is. -/
def YieldsAll (P : Program) (ops : Array Oper) (S : World → Prop) (o : Oper) (v : Value) (a : Act) : Prop := ∀ w, S w → YieldsAt P ops w o v a
theorem YieldsAll.on {o : Oper} {v u : Value} {a : Act} {d : Option Tmp} (hs : ∀ cs b, o.op ≠ .select cs b) (h : ∀ x, d = some x → x ∉ o.looksAt ops) (hy : YieldsAll P ops S o v a) : YieldsAll P ops S o v (a.put d u) :=
  fun w hw => (hy w hw).of_same (execOp_put o hs a d u h) (wanted_put o a d u h)
theorem YieldsAll.off {o : Oper} {v u : Value} {a : Act} {d : Option Tmp} (hs : ∀ cs b, o.op ≠ .select cs b) (h : ∀ x, d = some x → x ∉ o.looksAt ops) (hy : YieldsAll P ops S o v (a.put d u)) : YieldsAll P ops S o v a :=
  fun w hw => (hy w hw).of_same (execOp_put o hs a d u h).symm (wanted_put o a d u h).symm

/-- Each order: operations below n yield; number n makes the block (b: it is made); number n + 1 is left for the end. -/
def walks (P : Program) (md : Region.Mode) (ops : Array Oper) (S : World → Prop) (n : Nat) (px : Value) (L : Act → Prop) : Nat → Array Bool → Act → Bool → Prop
  | 0, listed, a, b => b = true ∧ Region.ready md ops listed = [n + 1] ∧ Region.ready md ops (listed.setIfInBounds (n + 1) true) = [] ∧ L a
  | f + 1, listed, a, b => Region.ready md ops listed ≠ [] ∧ ∀ i ∈ Region.ready md ops listed,
      (i < n ∧ ∃ o v, ops[i]? = some o ∧ YieldsAll P ops S o v a ∧ walks P md ops S n px L f (listed.setIfInBounds i true) (a.put o.dst v) b) ∨
      (i = n ∧ b = false ∧ ∃ o, ops[i]? = some o ∧ walks P md ops S n px L f (listed.setIfInBounds n true) (a.put o.dst px) true)

theorem walks_first {n i : Nat} {oi : Oper} {v px : Value} {L : Act → Prop} (hi : ops[i]? = some oi) (hsel : ∀ (j : Nat) (o : Oper) cs b, ops[j]? = some o → o.op ≠ .select cs b) (hin : i < n)
    (hst : Region.waitsFor md ops (n + 1) i = true) : ∀ (f : Nat) (listed : Array Bool) (a : Act) (b : Bool),
      (∀ j oj, ops[j]? = some oj → j ≠ i → listed.getD j true = false → (∀ e ∈ oj.after, Region.binds md e = true → e.on ≠ i) → oi.apart ops oj = true) →
      i ∈ Region.ready md ops listed → YieldsAll P ops S oi v a → walks P md ops S n px L f (listed.setIfInBounds i true) (a.put oi.dst v) b → walks P md ops S n px L (f + 1) listed a b := by
  intro f
  induction f with
  | zero =>
    intro listed a b _ hr hy H
    have hun := (mem_ready.1 hr).1
    refine ⟨fun h => (by rw [h] at hr; cases hr), fun j hj => ?_⟩
    by_cases hji : j = i
    · subst hji; exact .inl ⟨hin, oi, v, hi, hy, H⟩
    · have h1 := ready_mono hj hji
      rw [H.2.1] at h1
      have hjn : j = n + 1 := by simpa using h1
      subst hjn
      obtain ⟨o, ho, e, he, hb, hon⟩ := Region.waitsFor_spec hst
      obtain ⟨_, o', ho', hall⟩ := mem_ready.1 hj
      obtain rfl : o = o' := Option.some.inj (ho.symm.trans ho')
      have h2 := hall e he hb
      rw [hon, getD_both hun] at h2
      cases h2
  | succ f ih =>
    intro listed a b hfree hr hy H
    have hun := (mem_ready.1 hr).1
    refine ⟨fun h => (by rw [h] at hr; cases hr), fun j hj => ?_⟩
    by_cases hji : j = i
    · subst hji; exact .inl ⟨hin, oi, v, hi, hy, H⟩
    · have h1 := H.2 j (ready_mono hj hji)
      obtain ⟨hjun, oj, hoj, hall⟩ := mem_ready.1 hj
      have hnot : ∀ e ∈ oj.after, Region.binds md e = true → e.on ≠ i := fun e he hb heq => by
        have h2 := hall e he hb
        rw [heq, getD_both hun] at h2
        cases h2
      obtain ⟨p1, p2, p3⟩ := Oper.apart_spec (hfree j oj hoj hji hjun hnot)
      have hfree' : ∀ k ok, ops[k]? = some ok → k ≠ i → (listed.setIfInBounds j true).getD k true = false →
          (∀ e ∈ ok.after, Region.binds md e = true → e.on ≠ i) → oi.apart ops ok = true := fun k ok hk hki hu hno => by
        refine hfree k ok hk hki ?_ hno
        by_cases hjk : j = k
        · subst hjk; exact hjun
        · rw [getD_set_ne true hjk] at hu; exact hu
      rcases h1 with ⟨hjn, o2, u, ho2, hy2, H2⟩ | ⟨hjn, hb, o2, ho2, H2⟩
      · obtain rfl : oj = o2 := Option.some.inj (hoj.symm.trans ho2)
        refine .inl ⟨hjn, oj, u, hoj, hy2.off (fun cs b => hsel j oj cs b hoj) p1, ih _ _ _ hfree' (ready_mono hr (Ne.symm hji)) (hy.on (fun cs b => hsel i oi cs b hi) p3) ?_⟩
        rw [Array.setIfInBounds_comm _ _ hji, ← Act.put_comm a v u p2]
        exact H2
      · obtain rfl : oj = o2 := Option.some.inj (hoj.symm.trans ho2)
        subst hjn
        refine .inr ⟨rfl, hb, oj, hoj, ih _ _ _ hfree' (ready_mono hr (Ne.symm hji)) (hy.on (fun cs b => hsel i oi cs b hi) p3) ?_⟩
        rw [Array.setIfInBounds_comm _ _ hji, ← Act.put_comm a v px p2]
        exact H2

theorem wpAny_of_walks {n : Nat} {px : Value} {L : Act → Prop} {Q' : Exit → Act → World → Prop} {W W' : World} {oX : Oper} (hX : ops[n]? = some oX) (hXw : ∀ a : Act, Region.wanted oX (yielded ops a.tmps) = true)
    (hXr : ∀ a : Act, (execOp a.eval oX).run P W = .ok (.value px) W') (hS : S W) (hS' : S W') (hL : ∀ a, L a → wpOp P ops Q' (n + 1) (fun a' w' => Q' .normal a' w') a W') :
    ∀ (f : Nat) (listed : Array Bool) (a : Act) (b : Bool), walks P md ops S n px L f listed a b → wpAny P md ops Q' (f + 1) listed a (cond b W' W)
  | 0, listed, a, b, h => by
    obtain ⟨rfl, h1, h2, h3⟩ := h
    refine ⟨fun h0 => (by rw [h0] at h1; cases h1), fun i hi => ?_⟩
    rw [h1] at hi
    obtain rfl : i = n + 1 := by simpa using hi
    exact wpOp_mono (fun a' w' h' => ⟨h2, h'⟩) (hL a h3)
  | f + 1, listed, a, b, h => by
    refine ⟨fun h0 => absurd h0 h.1, fun i hi => ?_⟩
    rcases h.2 i hi with ⟨_, o, v, ho, hy, H⟩ | ⟨rfl, rfl, o, ho, H⟩
    · have hw : S (cond b W' W) := by cases b <;> assumption
      exact wpOp_of_stOp (fun a' h' => wpAny_of_walks hX hXw hXr hS hS' hL f _ a' b h') ((hy _ hw).stOp ho H)
    · obtain rfl : oX = o := Option.some.inj (hX.symm.trans ho)
      unfold wpOp
      simp only [ho, hXw a, if_true]
      refine .inl ?_
      unfold Oper.wp
      simp only [cond_false, hXr a, Oper.upon]
      exact wpAny_of_walks hX hXw hXr hS hS' hL f _ _ true H

/-- The order of the text. -/
def inText (P : Program) (ops : Array Oper) (S : World → Prop) (L : Act → Prop) : List Oper → Act → Prop
  | [], a => L a
  | o :: rest, a => ∃ v, YieldsAll P ops S o v a ∧ inText P ops S L rest (a.put o.dst v)

theorem walks_lex {n : Nat} {px : Value} {L : Act → Prop} {oX : Oper} (hX : ops[n]? = some oX) (hsel : Region.noSelect ops = true) (hst : ∀ i, i < n → Region.waitsFor md ops (n + 1) i = true) :
    ∀ (l : List Oper) (k : Nat) (listed : Array Bool) (a : Act), (∀ j, j < l.length → l[j]? = ops[k + j]?) → k + l.length = n → Region.lexHead md ops 2 l.length k listed = true →
    inText P ops S (fun a => L (a.put oX.dst px)) l a → walks P md ops S n px L (l.length + 1) listed a false
  | [], k, listed, a, _, hk, hB, h => by
    have : k = n := by simpa using hk
    subst this
    simp only [List.length_nil, Region.lexHead, Region.seqB, Bool.and_eq_true, decide_eq_true_eq, List.isEmpty_iff] at hB
    obtain ⟨h1, h2, h3⟩ := hB
    refine ⟨by rw [h1]; simp, fun i hi => ?_⟩
    rw [h1] at hi
    obtain rfl : i = k := by simpa using hi
    exact .inr ⟨rfl, rfl, oX, hX, rfl, h2, h3, h⟩
  | o :: l, k, listed, a, hl, hk, hB, h => by
    have h0 : ops[k]? = some o := by simpa using (hl 0 (by simp)).symm
    simp only [List.length_cons, Region.lexHead, Bool.and_eq_true] at hB
    obtain ⟨⟨hr, hf⟩, hB'⟩ := hB
    have hkn : k < n := by simp only [List.length_cons] at hk; omega
    obtain ⟨v, hy, hK⟩ := h
    exact walks_first h0 (Region.noSelect_spec hsel) hkn (hst k hkn) (l.length + 1) listed a false (Region.free_spec h0 hf) (by simpa using hr) hy
      (walks_lex hX hsel hst l (k + 1) _ _ (fun j hj => by have := hl (j + 1) (by simp; omega); simpa [Nat.add_assoc, Nat.add_comm 1 j] using this) (by simp only [List.length_cons] at hk; omega) hB' hK)

/-- What is written once stays. -/
theorem still_keeps {A : Act} {w : World} {d : Nat} : ∀ (l : List Oper) (a : Act), (∀ o ∈ l, o.dst ≠ some d) → wpStill P ops w (fun a' => a' = A) l a → A.tmps[d]? = a.tmps[d]?
  | [], a, _, h => by rw [show a = A from h]
  | o :: l, a, hd, h => by
    have put_keeps : ∀ v, (a.put o.dst v).tmps[d]? = a.tmps[d]? := fun v => by
      have h0 := hd o (by simp)
      cases ho : o.dst with
      | none => rfl
      | some e =>
        rw [ho] at h0
        show (a.tmps.setIfInBounds e v)[d]? = _
        exact Array.getElem?_setIfInBounds_ne (by simpa using h0)
    have step : ∀ v, wpStill P ops w (fun a' => a' = A) l (a.put o.dst v) → A.tmps[d]? = a.tmps[d]? := fun v hv => by
      rw [still_keeps l _ (fun o ho => hd o (by simp [ho])) hv, put_keeps]
    unfold wpStill at h
    split at h
    · unfold Oper.still at h
      generalize (execOp a.eval o).run P w = r at h
      cases r with
      | ok n w' =>
        cases n <;> simp only [Oper.stillUpon] at h
        case value u => exact step _ h.2
        case skip => exact step _ h.2
        case enter f args => obtain ⟨_, v, _, hn⟩ := h; exact step _ hn
      | halt x w' => simp only [Oper.stillUpon] at h
    · exact step _ h

theorem inText_of_still {A : Act} {w0 : World} (hS0 : S w0) {N : Nat} : ∀ (l : List Oper) (k : Nat) (a : Act), (∀ j, j < l.length → l[j]? = ops[k + j]?) → a.tmps.size = N →
    (∀ o ∈ l, ∃ d, o.dst = some d ∧ d < N) → (l.map (·.dst)).Nodup → (∀ w, S w → wpStill P ops w (fun a' => a' = A) l a) → inText P ops S (fun a => a = A) l a
  | [], k, a, _, _, _, _, h => h w0 hS0
  | o :: l, k, a, hl, hN, hd, hu, h => by
    have h0 : ops[k]? = some o := by simpa using (hl 0 (by simp)).symm
    obtain ⟨d, hod, hdN⟩ := hd o (by simp)
    simp only [List.map_cons, List.nodup_cons, List.mem_map, not_exists, not_and] at hu
    have hne : ∀ o' ∈ l, o'.dst ≠ some d := fun o' ho' e => hu.1 o' ho' (e.trans hod.symm)
    have hlt : d < a.tmps.size := by rw [hN]; exact hdN
    have each : ∀ w, S w → ∃ v, YieldsAt P ops w o v a ∧ wpStill P ops w (fun a' => a' = A) l (a.put o.dst v) ∧ A.tmps[d]? = some v := fun w hw => by
      have hst : stOp P ops w k (wpStill P ops w (fun a' => a' = A) l) a := by unfold stOp; simp only [h0]; exact h w hw
      obtain ⟨v, hy, hK⟩ := yieldsAt_of_stOp h0 hst
      refine ⟨v, hy, hK, ?_⟩
      rw [still_keeps l _ hne hK, hod]
      show (a.tmps.setIfInBounds d v)[d]? = some v
      rw [Array.getElem?_setIfInBounds_self_of_lt hlt]
    obtain ⟨v, _, _, hAv⟩ := each w0 hS0
    have all : ∀ w, S w → YieldsAt P ops w o v a ∧ wpStill P ops w (fun a' => a' = A) l (a.put o.dst v) := fun w hw => by
      obtain ⟨u, hy, hK, hu⟩ := each w hw
      obtain rfl : v = u := Option.some.inj (hAv.symm.trans hu)
      exact ⟨hy, hK⟩
    refine ⟨v, fun w hw => (all w hw).1, inText_of_still hS0 l (k + 1) _ (fun j hj => by have := hl (j + 1) (by simp; omega); simpa [Nat.add_assoc, Nat.add_comm 1 j] using this) ?_ (fun o' ho' => hd o' (by simp [ho'])) hu.2 (fun w hw => (all w hw).2)⟩
    rw [hod]
    show (a.tmps.setIfInBounds d v).size = N
    rw [Array.size_setIfInBounds]; exact hN

/-- What is asked of the region's form. -/
def loneB (l : List Oper) (n N : Nat) : Bool :=
  Region.noSelect l.toArray && ((List.range n).all fun i => Region.waitsFor .any l.toArray (n + 1) i) && Region.lexHead .any l.toArray 2 n 0 (Array.replicate l.length false) &&
  ((l.take n).all fun o => match o.dst with | some d => decide (d < N) | none => false) && decide ((l.take n).map (·.dst)).Nodup && decide (l.length = n + 2)

/-- **The region.** A: how the frame stands behind the first n operations; S: what they ask of the world. -/
theorem wp_region_lone {id : Nat} {Q : Exit → Act → World → Prop} {a : Act} {w W W' : World} {l : List Oper} (n N : Nat) {oX oY : Oper} {px : Value} (S : World → Prop) (A : Act) (hm : P.follows .mixedOrders = true) (hB : loneB l n N = true)
    (hN : a.tmps.size = N) (hW : w.drew = W) (hX : l[n]? = some oX) (hY : l[n + 1]? = some oY) (hXw : oX.guard = none) (hXr : ∀ a : Act, (execOp a.eval oX).run P W = .ok (.value px) W') (hS : S W) (hS' : S W')
    (hs : ∀ w, S w → wpStill P l.toArray w (fun a' => a' = A) (l.take n) a) (h : wpList P l.toArray Q [oY] (A.put oX.dst px) W') : (Code.region id l.toArray true).wp P Q a w := by
  simp only [loneB, Bool.and_eq_true, decide_eq_true_eq] at hB
  obtain ⟨⟨⟨⟨⟨hsel, hst⟩, hlex⟩, hd⟩, hu⟩, hlen⟩ := hB
  subst hW
  have htl : (l.take n).length = n := by simp; omega
  have hd' : ∀ o ∈ l.take n, ∃ d, o.dst = some d ∧ d < N := fun o ho => by
    have h1 := List.all_eq_true.1 hd o ho
    cases hod : o.dst with
    | none => rw [hod] at h1; cases h1
    | some d => rw [hod] at h1; exact ⟨d, rfl, by simpa using h1⟩
  have hsame : ∀ j, j < (l.take n).length → (l.take n)[j]? = l.toArray[0 + j]? := fun j hj => by
    rw [htl] at hj
    simp [hj]
  have hX' : l.toArray[n]? = some oX := by simpa using hX
  have hY' : l.toArray[n + 1]? = some oY := by simpa using hY
  have hxw : ∀ a : Act, Region.wanted oX (yielded l.toArray a.tmps) = true := fun a => by unfold Region.wanted; rw [hXw]
  have T := inText_of_still (P := P) (ops := l.toArray) (S := S) hS (l.take n) 0 a hsame hN hd' hu hs
  have K := walks_lex (P := P) (md := .any) (S := S) (px := px) (L := fun a' => a' = A.put oX.dst px) hX' hsel (fun i hi => List.all_eq_true.1 hst i (List.mem_range.2 hi)) (l.take n) 0 (Array.replicate l.length false) a hsame (by simpa using htl) (by rw [htl]; exact hlex)
    (by
      have g : ∀ (l' : List Oper) (a : Act), inText P l.toArray S (fun a => a = A) l' a → inText P l.toArray S (fun a => a.put oX.dst px = A.put oX.dst px) l' a := by
        intro l'
        induction l' with
        | nil => intro a h; show _ = _; rw [show a = A from h]
        | cons o r ih => intro a h; obtain ⟨v, h1, h2⟩ := h; exact ⟨v, h1, ih _ h2⟩
      exact g _ _ T)
  refine wp_region_any hm ?_
  have R := wpAny_of_walks (Q' := Q) hX' hxw hXr hS hS' (fun a' ha' => by
    subst ha'
    unfold wpOp
    simp only [hY']
    exact h) _ _ _ _ K
  have hz : l.toArray.size = (l.take n).length + 1 + 1 := by rw [htl]; simpa using hlen
  rw [hz]
  rw [show Array.replicate ((l.take n).length + 1 + 1) false = Array.replicate l.length false from by rw [htl, hlen]]
  exact R
end
end Go.Proofs.Ytadbonmkockakaa.Lone
