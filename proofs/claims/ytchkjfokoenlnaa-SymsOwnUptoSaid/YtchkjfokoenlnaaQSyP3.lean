/- The table of syms is the reference's: tableS of the gathered entries is tableR. No program in sight. -/
import Derived.Test.YtchkjfokoenlnaaQSyP2
import Derived.Test.YtchkjfokoenlnaaQSyT
namespace Go.Proofs.Ytchkjfokoenlnaa.Sym
open Go.RowKit Go.Proofs.YtchkjfokoenlnaaW.PrintWords Go.Proofs.YtchkjfokoenlnaaW.PrintLast Go.Proofs.Ytchkjfokoenlnaa.QSy
set_option linter.unusedVariables false
set_option linter.unusedSimpArgs false
def gstepO (es : List Ent) (o : Occ) : List Ent := gstep es o.i o.k o.s
theorem gSyms_fold (es : List Ent) (i : Nat) (ss : List S47) : ∀ (d j : Nat), j + d = ss.length → (rowO (i : Int) (ss.drop j) j).foldl gstepO (gSyms es i ss j) = gSyms es i ss ss.length := by
  intro d
  induction d with
  | zero =>
    intro j hj
    have : j = ss.length := by omega
    subst this
    rw [List.drop_length]; rfl
  | succ d ih =>
    intro j hj
    have hlt : j < ss.length := by omega
    rw [drop_at hlt]
    simp only [rowO, List.foldl_cons]
    rw [← ih (j + 1) (by omega)]
    have hy : ss.getD j z47 = ss[j] := by rw [List.getD_eq_getElem?_getD, List.getElem?_eq_getElem hlt]; rfl
    simp only [gSyms, gstepO, hy]
theorem gObjs_fold (ls : List S44) : gObjs ls ls.length = (occs ls).foldl gstepO [] := by
  have key : ∀ (d i : Nat), i + d = ls.length → (objO (ls.drop i) i).foldl gstepO (gObjs ls i) = gObjs ls ls.length := by
    intro d
    induction d with
    | zero =>
      intro i hi
      have : i = ls.length := by omega
      subst this
      rw [List.drop_length]; rfl
    | succ d ih =>
      intro i hi
      have hlt : i < ls.length := by omega
      rw [drop_at hlt]
      simp only [objO, List.foldl_append]
      rw [← ih (i + 1) (by omega)]
      have hx : ls.getD i z44 = ls[i] := by rw [List.getD_eq_getElem?_getD, List.getElem?_eq_getElem hlt]; rfl
      have := gSyms_fold (gObjs ls i) i ls[i].f1.f1 ls[i].f1.f1.length 0 (by omega)
      rw [List.drop_zero] at this
      rw [show gSyms (gObjs ls i) i ls[i].f1.f1 0 = gObjs ls i from rfl] at this
      rw [this]
      simp only [gObjs, hx]
  have := key ls.length 0 (by omega)
  rw [List.drop_zero] at this
  exact this.symm
/-- The symbol is of the name, and not local. -/
def isN (n : ByteArray) (o : Occ) : Bool := decide (o.s.f3 ≠ 0) && decide (o.s.f0 = n)
def estep (n : ByteArray) (e : Ent) (o : Occ) : Ent := if isN n o then upd e o.i o.k o.s else e
def entF (os : List Occ) (n : ByteArray) : Ent := os.foldl (estep n) (freshE n)
theorem snoc_ind {α : Type} {P : List α → Prop} (h0 : P []) (h1 : ∀ l x, P l → P (l ++ [x])) (l : List α) : P l := by
  have : ∀ (n : Nat) (l : List α), l.length = n → P l := by
    intro n
    induction n with
    | zero => intro l hl; rw [List.length_eq_zero_iff.1 hl]; exact h0
    | succ n ih =>
      intro l hl
      have hne : l ≠ [] := fun h => by rw [h] at hl; cases hl
      rw [← List.dropLast_concat_getLast hne]
      exact h1 _ _ (ih _ (by rw [List.length_dropLast]; omega))
  exact this l.length l rfl
theorem estep_name (n : ByteArray) (e : Ent) (o : Occ) : (estep n e o).name = e.name := by unfold estep; split; exact upd_name ..; rfl
theorem entF_name (os : List Occ) (n : ByteArray) : (entF os n).name = n := by
  refine snoc_ind (P := fun os => (entF os n).name = n) rfl (fun l x h => ?_) os
  unfold entF at *
  rw [List.foldl_append]
  simp only [List.foldl_cons, List.foldl_nil, estep_name]
  exact h
theorem mem_updAll {es : List Ent} {i k : Int} {s : S47} {e : Ent} : e ∈ updAll es i k s ↔ ∃ x ∈ es, (if x.name = s.f0 then upd x i k s else x) = e := by unfold updAll; rw [List.mem_map]
theorem gath (os : List Occ) : Uniq (os.foldl gstepO []) ∧ (∀ e ∈ os.foldl gstepO [], e = entF os e.name) ∧ ∀ n, (∃ e ∈ os.foldl gstepO [], e.name = n) ↔ ∃ o ∈ os, isN n o = true := by
  refine snoc_ind (P := fun os => Uniq (os.foldl gstepO []) ∧ (∀ e ∈ os.foldl gstepO [], e = entF os e.name) ∧ ∀ n, (∃ e ∈ os.foldl gstepO [], e.name = n) ↔ ∃ o ∈ os, isN n o = true) ⟨List.nodup_nil, fun e h => by simp at h, fun n => by simp⟩ (fun l o ⟨h1, h2, h3⟩ => ?_) os
  rw [List.foldl_append]
  simp only [List.foldl_cons, List.foldl_nil]
  obtain ⟨es, hes⟩ : ∃ es, l.foldl gstepO [] = es := ⟨_, rfl⟩
  rw [hes] at h1 h2 h3 ⊢
  have hF : ∀ n, entF (l ++ [o]) n = estep n (entF l n) o := fun n => by unfold entF; rw [List.foldl_append]; rfl
  have hu : Uniq (gstepO es o) := uniq_step h1 _ _ _
  refine ⟨hu, ?_⟩
  unfold gstepO gstep
  by_cases h0 : o.s.f3 = 0
  · rw [if_pos h0]
    have hno : ∀ n, isN n o = false := fun n => by unfold isN; simp [h0]
    refine ⟨fun e he => ?_, fun n => ?_⟩
    · rw [hF]; unfold estep; rw [hno]; exact h2 e he
    · rw [h3]
      constructor
      · rintro ⟨x, hx, h⟩; exact ⟨x, by simp [hx], h⟩
      · rintro ⟨x, hx, h⟩
        rcases List.mem_append.1 hx with hx | hx
        · exact ⟨x, hx, h⟩
        · simp at hx; subst hx; rw [hno] at h; cases h
  · rw [if_neg h0]
    have hyes : isN o.s.f0 o = true := by unfold isN; simp [h0]
    have hne : ∀ n, n ≠ o.s.f0 → isN n o = false := fun n hn => by unfold isN; simp [h0]; exact fun h => hn h.symm
    have hstepE : ∀ x : Ent, x = entF l x.name → (if x.name = o.s.f0 then upd x o.i o.k o.s else x) = entF (l ++ [o]) x.name := fun x hx => by
      rw [hF]
      unfold estep
      by_cases hn : x.name = o.s.f0
      · rw [if_pos hn, hn, hyes, if_pos rfl, ← hn, ← hx]
      · rw [if_neg hn, hne _ hn]; exact hx
    have hname : ∀ x : Ent, (if x.name = o.s.f0 then upd x o.i o.k o.s else x).name = x.name := fun x => by
      split
      · exact upd_name ..
      · rfl
    by_cases hh : hasE es o.s.f0 = true
    · rw [if_pos hh]
      refine ⟨fun e he => ?_, fun n => ?_⟩
      · obtain ⟨x, hx, rfl⟩ := mem_updAll.1 he
        rw [hname]
        exact hstepE x (h2 x hx)
      · constructor
        · rintro ⟨e, he, hn⟩
          obtain ⟨x, hx, rfl⟩ := mem_updAll.1 he
          rw [hname] at hn
          obtain ⟨q, hq, hq2⟩ := (h3 n).1 ⟨x, hx, hn⟩
          exact ⟨q, by simp [hq], hq2⟩
        · rintro ⟨q, hq, hq2⟩
          have : ∃ x ∈ es, x.name = n := by
            rcases List.mem_append.1 hq with hq | hq
            · exact (h3 n).2 ⟨q, hq, hq2⟩
            · simp at hq; subst hq
              have hn : n = q.s.f0 := Classical.byContradiction fun h => by rw [hne n h] at hq2; cases hq2
              rw [hn]; exact hasE_iff.1 hh
          obtain ⟨x, hx, hxn⟩ := this
          exact ⟨_, mem_updAll.2 ⟨x, hx, rfl⟩, by rw [hname]; exact hxn⟩
    · rw [if_neg hh]
      have hfr : freshE o.s.f0 = entF l o.s.f0 := by
        have hnone : ∀ q ∈ l, isN o.s.f0 q = false := fun q hq => Bool.eq_false_iff.2 (fun h => hh (hasE_iff.2 ((h3 o.s.f0).2 ⟨q, hq, h⟩)))
        unfold entF
        have : ∀ (l : List Occ) (e : Ent), (∀ q ∈ l, isN o.s.f0 q = false) → l.foldl (estep o.s.f0) e = e := by
          intro l
          induction l with
          | nil => intro e _; rfl
          | cons q r ih =>
            intro e hq
            simp only [List.foldl_cons]
            have : estep o.s.f0 e q = e := by unfold estep; rw [hq q (by simp)]; rfl
            rw [this]; exact ih e (fun z hz => hq z (by simp [hz]))
        exact (this l _ hnone).symm
      have hall : ∀ x ∈ es ++ [freshE o.s.f0], x = entF l x.name := fun x hx => by
        rcases List.mem_append.1 hx with hx | hx
        · exact h2 x hx
        · simp at hx; subst hx; exact hfr
      refine ⟨fun e he => ?_, fun n => ?_⟩
      · obtain ⟨x, hx, rfl⟩ := mem_updAll.1 he
        rw [hname]
        exact hstepE x (hall x hx)
      · constructor
        · rintro ⟨e, he, hn⟩
          obtain ⟨x, hx, rfl⟩ := mem_updAll.1 he
          rw [hname] at hn
          rcases List.mem_append.1 hx with hx | hx
          · obtain ⟨q, hq, hq2⟩ := (h3 n).1 ⟨x, hx, hn⟩
            exact ⟨q, by simp [hq], hq2⟩
          · simp at hx; subst hx
            have : n = o.s.f0 := hn.symm
            subst this
            exact ⟨o, by simp, hyes⟩
        · rintro ⟨q, hq, hq2⟩
          rcases List.mem_append.1 hq with hq | hq
          · obtain ⟨x, hx, hxn⟩ := (h3 n).2 ⟨q, hq, hq2⟩
            exact ⟨_, mem_updAll.2 ⟨x, by simp [hx], rfl⟩, by rw [hname]; exact hxn⟩
          · simp at hq; subst hq
            have hn : n = q.s.f0 := Classical.byContradiction fun h => by rw [hne n h] at hq2; cases hq2
            exact ⟨_, mem_updAll.2 ⟨freshE q.s.f0, by simp, rfl⟩, by rw [hname, hn]; rfl⟩
/-! ### strictly ascending names -/
def Asc (l : List ByteArray) : Prop := l.Pairwise fun a b => ltN a b = true
theorem ltN_irr (a : ByteArray) : ltN a a = false := by unfold ltN cmpN; rw [cmpB_self]; simp
theorem ltN_trans {a b c : ByteArray} (h : ltN a b = true) (k : ltN b c = true) : ltN a c = true := by
  unfold ltN at *
  simp only [decide_eq_true_eq] at *
  exact cmpB_trans h k
theorem ltN_tot {a b : ByteArray} (h : ltN a b = false) (hne : a ≠ b) : ltN b a = true := by
  unfold ltN at *
  simp only [decide_eq_false_iff_not, decide_eq_true_eq] at *
  have h1 := cmpN_swap a b
  have h2 : cmpN a b ≠ 0 := fun e => hne (cmpN_eq e)
  omega
theorem asc_eq : ∀ {l m : List ByteArray}, Asc l → Asc m → (∀ n, n ∈ l ↔ n ∈ m) → l = m
  | [], [], _, _, _ => rfl
  | [], b :: m, _, _, h => by have := (h b).2 (by simp); cases this
  | a :: l, [], _, _, h => by have := (h a).1 (by simp); cases this
  | a :: l, b :: m, hl, hm, h => by
    obtain ⟨l1, l2⟩ := List.pairwise_cons.1 hl
    obtain ⟨m1, m2⟩ := List.pairwise_cons.1 hm
    have hab : a = b := by
      apply Classical.byContradiction
      intro hne
      have ha : a ∈ m := by
        rcases List.mem_cons.1 ((h a).1 (by simp)) with e | e
        · exact absurd e hne
        · exact e
      have hb : b ∈ l := by
        rcases List.mem_cons.1 ((h b).2 (by simp)) with e | e
        · exact absurd e.symm hne
        · exact e
      have := ltN_trans (l1 b hb) (m1 a ha)
      rw [ltN_irr] at this; cases this
    subst hab
    have ht : ∀ n, n ∈ l ↔ n ∈ m := fun n => by
      constructor
      · intro hn
        rcases List.mem_cons.1 ((h n).1 (by simp [hn])) with e | e
        · subst e; have := l1 n hn; rw [ltN_irr] at this; cases this
        · exact e
      · intro hn
        rcases List.mem_cons.1 ((h n).2 (by simp [hn])) with e | e
        · subst e; have := m1 n hn; rw [ltN_irr] at this; cases this
        · exact e
    rw [asc_eq l2 m2 ht]
theorem insN_mem (l : List ByteArray) (n x : ByteArray) : x ∈ insN l n ↔ x = n ∨ x ∈ l := by
  induction l with
  | nil => simp [insN]
  | cons y r ih =>
    simp only [insN]
    split
    · simp only [List.mem_cons, ih]
      constructor
      · rintro (h | h | h) <;> simp [h]
      · rintro (h | h | h) <;> simp [h]
    · split
      · rename_i h; subst h
        simp
      · simp
theorem insN_asc {l : List ByteArray} (h : Asc l) (n : ByteArray) : Asc (insN l n) := by
  induction l with
  | nil => simp [insN, Asc]
  | cons y r ih =>
    obtain ⟨h1, h2⟩ := List.pairwise_cons.1 h
    simp only [insN]
    split
    · rename_i hy
      refine List.pairwise_cons.2 ⟨fun x hx => ?_, ih h2⟩
      rcases (insN_mem r n x).1 hx with e | e
      · subst e; exact hy
      · exact h1 x e
    · split
      · exact h
      · rename_i hy hne
        have hny : ltN n y = true := ltN_tot (by simpa using hy) hne
        refine List.pairwise_cons.2 ⟨fun x hx => ?_, h⟩
        rcases List.mem_cons.1 hx with e | e
        · subst e; exact hny
        · exact ltN_trans hny (h1 x e)
theorem names_ok (os : List Occ) : Asc (os.foldl nstep []) ∧ ∀ n, n ∈ os.foldl nstep [] ↔ ∃ o ∈ os, isN n o = true := by
  refine snoc_ind (P := fun os => Asc (os.foldl nstep []) ∧ ∀ n, n ∈ os.foldl nstep [] ↔ ∃ o ∈ os, isN n o = true) ⟨List.Pairwise.nil, fun n => by simp⟩ (fun l o ⟨h1, h2⟩ => ?_) os
  rw [List.foldl_append]
  simp only [List.foldl_cons, List.foldl_nil]
  unfold nstep
  by_cases h0 : o.s.f3 = 0
  · rw [if_pos h0]
    refine ⟨h1, fun n => ?_⟩
    have hno : isN n o = false := by unfold isN; simp [h0]
    show n ∈ l.foldl nstep [] ↔ _
    rw [h2]
    simp [hno]
  · rw [if_neg h0]
    refine ⟨insN_asc h1 _, fun n => ?_⟩
    rw [insN_mem]
    have : n ∈ l.foldl nstep [] ↔ _ := h2 n
    show n = o.s.f0 ∨ n ∈ l.foldl nstep [] ↔ _
    rw [this]
    constructor
    · rintro (h | ⟨x, hx, h⟩)
      · subst h; exact ⟨o, by simp, by unfold isN; simp [h0]⟩
      · exact ⟨x, by simp [hx], h⟩
    · rintro ⟨x, hx, h⟩
      rcases List.mem_append.1 hx with hx | hx
      · exact .inr ⟨x, hx, h⟩
      · simp at hx; subst hx
        unfold isN at h; simp at h
        exact .inl h.2.symm
theorem sortE_names {es : List Ent} (hu : Uniq es) : Asc ((sortE es).map Ent.name) := by
  have hp : (sortE es).Perm es := List.mergeSort_perm _ _
  have hs : (sortE es).Pairwise fun a b => (!(ltN b.name a.name)) = true := by
    unfold sortE
    refine List.pairwise_mergeSort (le := fun a b : Ent => !(ltN b.name a.name)) (fun a b c h k => ?_) (fun a b => ?_) es
    · simp only [Bool.not_eq_true'] at *
      have := (ltN_swo Ent.name).ntrans c b a
      unfold ltOf at this
      exact this k h
    · cases h1 : ltN b.name a.name with
      | false => rfl
      | true =>
        have : ltN a.name b.name = false := Bool.eq_false_iff.2 (fun h2 => by have := ltN_trans h1 h2; rw [ltN_irr] at this; cases this)
        simp [this]
  have hn : ((sortE es).map Ent.name).Nodup := (hp.map Ent.name).nodup_iff.2 hu
  unfold Asc
  rw [List.pairwise_map]
  rw [List.nodup_iff_pairwise_ne, List.pairwise_map] at hn
  refine (hs.and hn).imp (fun {a b} h => ?_)
  obtain ⟨h1, h2⟩ := h
  exact ltN_tot (by simpa using h1) (fun e => h2 e.symm)
theorem names_eq (ls : List S44) : (sortE (gObjs ls ls.length)).map Ent.name = namesS ls := by
  obtain ⟨h1, _, h3⟩ := gath (occs ls)
  obtain ⟨k1, k2⟩ := names_ok (occs ls)
  rw [gObjs_fold]
  refine asc_eq (sortE_names h1) k1 (fun n => ?_)
  have hp : (sortE ((occs ls).foldl gstepO [])).Perm ((occs ls).foldl gstepO []) := List.mergeSort_perm _ _
  rw [(hp.map Ent.name).mem_iff, List.mem_map, h3, ← k2]
  rfl
/-! ### an entry, and what is found of its name -/
def FSinv (e : Ent) (f3 f2 f1 : FS) (w : Bool) : Prop :=
  e.twice = decide (1 < f3.n) ∧ e.wanted = w ∧ 0 ≤ f3.n ∧ 0 ≤ f2.n ∧ 0 ≤ f1.n ∧
  (f3.n = 0 → f3.a = -1 ∧ f3.b = 0 ∧ f3.c = -1) ∧ (f2.n = 0 → f2.a = -1 ∧ f2.b = 0 ∧ f2.c = -1) ∧ (f1.n = 0 → f1.a = -1 ∧ f1.b = 0 ∧ f1.c = -1) ∧
  (if f3.n ≠ 0 then e.rank = 3 ∧ e.obj = f3.a ∧ e.sym = f3.b ∧ e.own = f3.c
   else if f2.n ≠ 0 then e.rank = 2 ∧ e.obj = f2.a ∧ e.sym = f2.b ∧ e.own = f2.c
   else if f1.n ≠ 0 then e.rank = 1 ∧ e.obj = f1.a ∧ e.sym = f1.b ∧ e.own = f1.c
   else e.rank = 0 ∧ e.obj = -1 ∧ e.sym = 0 ∧ e.own = -1)
theorem rank_cases (s : S47) : rankOf s = 0 ∧ s.f6 = -1 ∨ (rankOf s = 2 ∨ rankOf s = 3 ∨ rankOf s = 1) ∧ s.f6 ≠ -1 := by
  unfold rankOf
  split
  · exact .inl ⟨rfl, by assumption⟩
  · split
    · exact .inr ⟨.inl rfl, by assumption⟩
    · split
      · exact .inr ⟨.inr (.inl rfl), by assumption⟩
      · exact .inr ⟨.inr (.inr rfl), by assumption⟩
theorem inv_step (n : ByteArray) (e : Ent) (f3 f2 f1 : FS) (w : Bool) (o : Occ) (h : FSinv e f3 f2 f1 w) (hb3 : f3.n < 9223372036854775806) (hb2 : f2.n < 9223372036854775806) (hb1 : f1.n < 9223372036854775806) :
    FSinv (estep n e o) (fstep n 3 f3 o) (fstep n 2 f2 o) (fstep n 1 f1 o) (w || askS n o.s) := by
  obtain ⟨t, wt, p3, p2, p1, z3, z2, z1, hr⟩ := h
  have w3 : wrap64 (f3.n + 1) = f3.n + 1 := by unfold wrap64; omega
  have w2 : wrap64 (f2.n + 1) = f2.n + 1 := by unfold wrap64; omega
  have w1 : wrap64 (f1.n + 1) = f1.n + 1 := by unfold wrap64; omega
  by_cases hn : o.s.f0 = n
  · by_cases h0 : o.s.f3 = 0
    · have hi : isN n o = false := by unfold isN; simp [h0]
      have hk : kindS o.s = -1 := by unfold kindS; rw [if_pos h0]
      have ha : askS n o.s = false := by unfold askS; simp [h0]
      unfold estep fstep
      rw [hi, hk, ha, Bool.or_false]
      simp only [Bool.false_eq_true, if_false]
      rw [if_neg (by omega), if_neg (by omega), if_neg (by omega)]
      exact ⟨t, wt, p3, p2, p1, z3, z2, z1, hr⟩
    · have hi : isN n o = true := by unfold isN; simp [h0, hn]
      have hk : kindS o.s = rankOf o.s := by unfold kindS; rw [if_neg h0]
      unfold estep fstep
      rw [hi, hk]
      simp only [if_true, hn, true_and]
      rcases rank_cases o.s with ⟨hr0, hf⟩ | ⟨hr0, hf⟩
      · have ha : askS n o.s = decide (o.s.f3 = 1) := by unfold askS; simp [hn, hf]
        rw [ha, hr0]
        simp only [show ¬ ((0 : Int) = 3) by decide, show ¬ ((0 : Int) = 2) by decide, show ¬ ((0 : Int) = 1) by decide, if_false]
        have hrank : ¬ e.rank < 0 := by
          revert hr
          split
          · omega
          · split
            · omega
            · split <;> omega
        refine ⟨?_, ?_, p3, p2, p1, z3, z2, z1, ?_⟩
        · unfold upd; simp only [hr0]; rw [if_neg hrank]; simp [t]
        · unfold upd; simp only [hr0]; rw [if_neg hrank]; simp [wt]; rfl
        · unfold upd; simp only [hr0]; rw [if_neg hrank]; exact hr
      · have ha : askS n o.s = false := by unfold askS; simp [hf]
        rw [ha, Bool.or_false]
        rcases hr0 with hr0 | hr0 | hr0
        · rw [hr0]
          simp only [show ¬ ((2 : Int) = 3) by decide, show ¬ ((2 : Int) = 1) by decide, if_false, if_true]
          unfold upd FSinv
          simp only [hr0]
          by_cases n3 : f3.n = 0
          · rw [if_neg (by omega)] at hr
            by_cases n2 : f2.n = 0
            · have hlt : e.rank < 2 := by
                revert hr; rw [if_neg (by omega)]; split <;> omega
              rw [if_pos hlt, if_pos n2, w2]
              simp [t, wt, n3, n2, p1]
              exact ⟨z3 n3, z1⟩
            · rw [if_pos n2] at hr
              have hlt : ¬ e.rank < 2 := by omega
              rw [if_neg hlt, if_neg n2, w2]
              simp [t, wt, n3, p1]
              refine ⟨by omega, z3 n3, fun h => by omega, z1, ?_⟩
              rw [if_neg (by omega)]
              exact hr
          · rw [if_pos n3] at hr
            have hlt : ¬ e.rank < 2 := by omega
            rw [if_neg hlt]
            simp [t, wt, p3, p1, n3]
            by_cases n2 : f2.n = 0
            · rw [if_pos n2, w2]
              exact ⟨by simp [n2], fun h => by simp [n2] at h, z1, hr⟩
            · rw [if_neg n2, w2]
              exact ⟨by show 0 ≤ f2.n + 1; omega, fun h => by exfalso; have h' : f2.n + 1 = 0 := h; omega, z1, hr⟩
        · rw [hr0]
          simp only [show ¬ ((3 : Int) = 2) by decide, show ¬ ((3 : Int) = 1) by decide, if_false, if_true]
          unfold upd FSinv
          simp only [hr0]
          by_cases n3 : f3.n = 0
          · have hlt : e.rank < 3 := by
              revert hr; rw [if_neg (by omega)]
              split
              · omega
              · split <;> omega
            have hne : (e.rank == 3) = false := by simp; omega
            rw [if_pos hlt, if_pos n3, w3]
            simp [t, wt, n3, p2, p1, hne]
            exact ⟨z2, z1⟩
          · rw [if_pos n3] at hr
            have hlt : ¬ e.rank < 3 := by omega
            have heq : (e.rank == 3) = true := by simp [hr.1]
            rw [if_neg hlt, if_neg n3, w3]
            simp [wt, p2, p1, heq]
            refine ⟨by omega, by omega, fun h => by omega, z2, z1, ?_⟩
            rw [if_neg (by omega)]
            exact hr
        · rw [hr0]
          simp only [show ¬ ((1 : Int) = 2) by decide, show ¬ ((1 : Int) = 3) by decide, if_false, if_true]
          unfold upd FSinv
          simp only [hr0]
          by_cases n3 : f3.n = 0
          · rw [if_neg (by omega)] at hr
            by_cases n2 : f2.n = 0
            · rw [if_neg (by omega)] at hr
              by_cases n1 : f1.n = 0
              · have hlt : e.rank < 1 := by
                  revert hr; rw [if_neg (by omega)]; omega
                rw [if_pos hlt, if_pos n1, w1]
                simp [t, wt, n3, n2, n1]
                exact ⟨z3 n3, z2 n2⟩
              · rw [if_pos n1] at hr
                have hlt : ¬ e.rank < 1 := by omega
                rw [if_neg hlt, if_neg n1, w1]
                simp [t, wt, n3, n2]
                refine ⟨by omega, z3 n3, z2 n2, fun h => by omega, ?_⟩
                rw [if_neg (by omega)]
                exact hr
            · rw [if_pos n2] at hr
              have hlt : ¬ e.rank < 1 := by omega
              rw [if_neg hlt]
              simp [t, wt, n3, n2, p2]
              by_cases n1 : f1.n = 0
              · rw [if_pos n1, w1]
                exact ⟨by simp [n1], z3 n3, fun h => by simp [n1] at h, hr⟩
              · rw [if_neg n1, w1]
                exact ⟨by show 0 ≤ f1.n + 1; omega, z3 n3, fun h => by exfalso; have h' : f1.n + 1 = 0 := h; omega, hr⟩
          · rw [if_pos n3] at hr
            have hlt : ¬ e.rank < 1 := by omega
            rw [if_neg hlt]
            simp [t, wt, n3, p3, p2]
            by_cases n1 : f1.n = 0
            · rw [if_pos n1, w1]
              exact ⟨by simp [n1], z2, fun h => by simp [n1] at h, hr⟩
            · rw [if_neg n1, w1]
              exact ⟨by show 0 ≤ f1.n + 1; omega, z2, fun h => by exfalso; have h' : f1.n + 1 = 0 := h; omega, hr⟩
  · have hi : isN n o = false := by unfold isN; simp [hn]
    have ha : askS n o.s = false := by unfold askS; simp [hn]
    unfold estep fstep
    rw [hi, ha, Bool.or_false]
    simp only [Bool.false_eq_true, if_false, hn, false_and]
    exact ⟨t, wt, p3, p2, p1, z3, z2, z1, hr⟩
theorem fstep_n (n : ByteArray) (kd : Int) (f : FS) (o : Occ) (m : Nat) (h : f.n ≤ (m : Int)) (hm : m < 9223372036854775806) (h0 : 0 ≤ f.n) : (fstep n kd f o).n ≤ ((m + 1 : Nat) : Int) := by
  have w : wrap64 (f.n + 1) = f.n + 1 := by unfold wrap64; omega
  unfold fstep
  split
  · split <;> (show wrap64 (f.n + 1) ≤ _; rw [w]; omega)
  · omega
theorem ent_inv (n : ByteArray) (os : List Occ) : os.length < 9223372036854775806 → FSinv (entF os n) (os.foldl (fstep n 3) ⟨-1, 0, -1, 0⟩) (os.foldl (fstep n 2) ⟨-1, 0, -1, 0⟩) (os.foldl (fstep n 1) ⟨-1, 0, -1, 0⟩) (os.foldl (fun b o => b || askS n o.s) false) ∧
    (os.foldl (fstep n 3) ⟨-1, 0, -1, 0⟩).n ≤ os.length ∧ (os.foldl (fstep n 2) ⟨-1, 0, -1, 0⟩).n ≤ os.length ∧ (os.foldl (fstep n 1) ⟨-1, 0, -1, 0⟩).n ≤ os.length := by
  refine snoc_ind (P := fun os => os.length < 9223372036854775806 → FSinv (entF os n) (os.foldl (fstep n 3) ⟨-1, 0, -1, 0⟩) (os.foldl (fstep n 2) ⟨-1, 0, -1, 0⟩) (os.foldl (fstep n 1) ⟨-1, 0, -1, 0⟩) (os.foldl (fun b o => b || askS n o.s) false) ∧
    (os.foldl (fstep n 3) ⟨-1, 0, -1, 0⟩).n ≤ os.length ∧ (os.foldl (fstep n 2) ⟨-1, 0, -1, 0⟩).n ≤ os.length ∧ (os.foldl (fstep n 1) ⟨-1, 0, -1, 0⟩).n ≤ os.length) ?_ ?_ os
  · intro _
    refine ⟨⟨rfl, rfl, Int.le_refl 0, Int.le_refl 0, Int.le_refl 0, fun _ => ⟨rfl, rfl, rfl⟩, fun _ => ⟨rfl, rfl, rfl⟩, fun _ => ⟨rfl, rfl, rfl⟩, ?_⟩, Int.le_refl 0, Int.le_refl 0, Int.le_refl 0⟩
    simp [entF, freshE]
  · intro l o ih hl
    rw [List.length_append, List.length_singleton] at hl ⊢
    obtain ⟨h, h3, h2, h1⟩ := ih (by omega)
    have hF : entF (l ++ [o]) n = estep n (entF l n) o := by unfold entF; rw [List.foldl_append]; rfl
    simp only [List.foldl_append, List.foldl_cons, List.foldl_nil, hF]
    exact ⟨inv_step n _ _ _ _ _ o h (by omega) (by omega) (by omega), fstep_n n 3 _ o l.length h3 (by omega) h.2.2.1, fstep_n n 2 _ o l.length h2 (by omega) h.2.2.2.1, fstep_n n 1 _ o l.length h1 (by omega) h.2.2.2.2.1⟩
theorem occs_len (ls : List S44) : (occs ls).length = cnt ls := by
  have hrow : ∀ (ss : List S47) (i : Int) (k : Nat), (rowO i ss k).length = ss.length := by
    intro ss
    induction ss with
    | nil => intro i k; rfl
    | cons x r ih => intro i k; simp [rowO, ih]
  have hlen : ∀ (l : List S44) (i : Nat), (objO l i).length = cnt l := by
    intro l
    induction l with
    | nil => intro i; rfl
    | cons x r ih => intro i; rw [cnt_cons]; simp [objO, hrow, ih]
  exact hlen ls 0
theorem find_congr {α : Type} {p q : α → Bool} {l : List α} (h : ∀ x ∈ l, p x = q x) : l.find? p = l.find? q := by
  induction l with
  | nil => rfl
  | cons x r ih =>
    rw [List.find?_cons, List.find?_cons, h x (by simp), ih (fun y hy => h y (by simp [hy]))]
/-- **The table of syms is the reference's.** -/
theorem table_eq (ls : List S44) (hc : cnt ls ≤ 1048576) (own : List ByteArray) : tableS own (sortE (gObjs ls ls.length)) = tableR ls own := by
  have hn := names_eq ls
  obtain ⟨_, h2, _⟩ := gath (occs ls)
  have hp : (sortE (gObjs ls ls.length)).Perm (gObjs ls ls.length) := List.mergeSort_perm _ _
  have hinv : ∀ e ∈ sortE (gObjs ls ls.length), FSinv e (findS ls e.name 3) (findS ls e.name 2) (findS ls e.name 1) (askedS ls e.name) := fun e he => by
    have he2 : e ∈ (occs ls).foldl gstepO [] := by rw [← gObjs_fold]; exact hp.mem_iff.1 he
    have := (ent_inv e.name (occs ls) (by rw [occs_len]; omega)).1
    rw [← h2 e he2] at this
    exact this
  obtain ⟨es, hes⟩ : ∃ es, sortE (gObjs ls ls.length) = es := ⟨_, rfl⟩
  rw [hes] at hn hinv ⊢
  have hbest : ∀ e ∈ es, ((bestS ls e.name).n ≠ 0 ↔ 0 < e.rank) ∧ e.obj = (bestS ls e.name).a ∧ e.sym = (bestS ls e.name).b ∧ e.own = (bestS ls e.name).c := fun e he => by
    obtain ⟨_, _, _, _, _, z3, z2, z1, hr⟩ := hinv e he
    unfold bestS
    by_cases n3 : (findS ls e.name 3).n = 0
    · rw [if_neg (by omega)] at hr
      by_cases n2 : (findS ls e.name 2).n = 0
      · rw [if_neg (by omega)] at hr
        rw [if_pos n3, if_pos n2]
        by_cases n1 : (findS ls e.name 1).n = 0
        · rw [if_neg (by omega)] at hr
          obtain ⟨q1, q2, q3⟩ := z1 n1
          exact ⟨by omega, by omega, by omega, by omega⟩
        · rw [if_pos n1] at hr
          exact ⟨by omega, hr.2.1, hr.2.2.1, hr.2.2.2⟩
      · rw [if_pos n2] at hr
        rw [if_pos n3, if_neg n2]
        exact ⟨by omega, hr.2.1, hr.2.2.1, hr.2.2.2⟩
    · rw [if_pos n3] at hr
      rw [if_neg n3]
      exact ⟨by omega, hr.2.1, hr.2.2.1, hr.2.2.2⟩
  have htw : ∀ e ∈ es, e.twice = decide (1 < (findS ls e.name 3).n) := fun e he => (hinv e he).1
  have hok : ∀ e ∈ es, okE own e = okR ls own e.name := fun e he => by
    have hb := (hbest e he).1
    have hw := (hinv e he).2.1
    unfold okE okR
    rw [hw, decide_eq_decide.2 hb]
  have hli : ∀ e ∈ es, lineE own e = lineR ls own e.name := fun e he => by
    obtain ⟨hb, h1, h2, h3⟩ := hbest e he
    unfold lineE lineR tgtE tgtR
    by_cases hr : 0 < e.rank
    · rw [if_pos hr, if_pos (hb.2 hr), h1, h2, h3]
    · rw [if_neg hr, if_neg (fun h => hr (hb.1 h)), h1, h2, h3]
  unfold tableS tableR
  have e1 : es.find? Ent.twice = es.find? ((fun n => decide (1 < (findS ls n 3).n)) ∘ Ent.name) := find_congr htw
  have e2 : es.find? (fun e => !okE own e) = es.find? ((fun n => !okR ls own n) ∘ Ent.name) := find_congr (fun e he => by simp [hok e he])
  rw [← hn, List.find?_map, List.find?_map, e1, e2]
  cases es.find? ((fun n => decide (1 < (findS ls n 3).n)) ∘ Ent.name) with
  | some e => rfl
  | none =>
    cases es.find? ((fun n => !okR ls own n) ∘ Ent.name) with
    | some e => rfl
    | none =>
      refine Prod.ext ?_ rfl
      show es.map (lineE own) = (es.map Ent.name).map (lineR ls own)
      rw [List.map_map]
      exact List.map_congr_left hli
end Go.Proofs.Ytchkjfokoenlnaa.Sym
