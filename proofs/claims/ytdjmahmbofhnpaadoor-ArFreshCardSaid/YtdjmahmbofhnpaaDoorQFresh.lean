/- The law ArFresh walked: what Read answers is new memory. -/
import Derived.Test.YtdjmahmbofhnpaaDoorQLivF
import Derived.Test.YtdjmahmbofhnpaaDoorQArZF
import Derived.Laws.Slices
namespace Go.Proofs.YtdjmahmbofhnpaaDoor.Ar
open Go.RowKit Go.Maps Go.WideMaps Go.Proofs.YtdjmahmbofhnpaaDoorW.PrintWords Go.Proofs.YtdjmahmbofhnpaaDoorW.PrintLast Go.Proofs.YtdjmahmbofhnpaaDoor.QAr
set_option linter.unusedVariables false
set_option linter.unusedSimpArgs false
theorem mM_mem {l : List S39} {m : S39} (h : m ∈ l) : m.f1.length ≤ mM l := by
  obtain ⟨k, hk, rfl⟩ := List.getElem_of_mem h
  have := mem_mM l k hk
  rw [List.getD_eq_getElem?_getD, List.getElem?_eq_getElem hk] at this
  have h2 : (l[k]).f0.size + (l[k]).f1.length + 200 ≤ mM l := this
  omega
theorem sum_le_mul {α : Type} (f : α → Nat) (K : Nat) (l : List α) (h : ∀ x ∈ l, f x ≤ K) : (l.map f).sum ≤ l.length * K := by
  induction l with
  | nil => simp
  | cons x r ih =>
    have h1 := h x List.mem_cons_self
    have h2 := ih (fun y hy => h y (List.mem_cons_of_mem _ hy))
    simp only [List.map_cons, List.sum_cons, List.length_cons, Nat.add_mul, Nat.one_mul]
    omega
theorem mem_ok (b : List Int) (L : List S64) (hL : ∀ p ∈ L, PartOk b p) (hb : Bytes8 b) : ∀ k, k ≤ L.length → ∀ ms, memS L k = some ms → ∀ m ∈ ms, m.f0.size ≤ 60 ∧ m.f1.length ≤ b.length ∧ Bytes8 m.f1 := by
  intro k
  induction k with
  | zero => intro _ ms h m hm; cases h; cases hm
  | succ k ih =>
    intro hk ms h m hm
    rw [memS_succ L k (by omega)] at h
    cases hs : memS L k with
    | none => rw [hs] at h; cases h
    | some q =>
      rw [hs] at h
      unfold memStep at h
      simp only [] at h
      split at h
      · cases h
      · split at h
        · cases h
          rcases List.mem_append.1 hm with hm | hm
          · exact ih (by omega) q hs m hm
          · rw [List.mem_singleton.1 hm]
            have hp := hL _ (getD_mem (show k < L.length by omega))
            refine ⟨?_, hp.len, hp.bytes hb⟩
            have h1 := hp.name
            unfold trimSfx
            split
            · rw [ByteArray.size_extract]; omega
            · exact h1
        · cases h
theorem indexL_size (b : List Int) (N : Nat) : ∀ (m i : Nat) (rest : ByteArray) (ns : List ByteArray) (ps : List Int), rest.size ≤ N → (∀ s ∈ ns, s.size ≤ N) → ∀ s ∈ (indexL b m i rest ns ps).1, s.size ≤ N := by
  intro m
  induction m with
  | zero => intro i rest ns ps _ h; exact h
  | succ m ih =>
    intro i rest ns ps hr h
    simp only [indexL]
    have hc := cutS_size rest
    split
    · exact ih _ _ _ _ (by omega) (fun s hs => by
        rcases List.mem_append.1 hs with hs | hs
        · exact h s hs
        · rw [List.mem_singleton.1 hs]; omega)
    · intro s hs; cases hs
theorem indexS_size (b : List Int) : ∀ s ∈ (indexS b).1, s.size ≤ b.length := by
  unfold indexS
  split
  · intro s hs; cases hs
  · split
    · intro s hs; cases hs
    · exact indexL_size b b.length _ _ _ _ _ (by rw [size_ofNums, List.length_drop]; omega) (fun s hs => by cases hs)
theorem idxL_size (L : List S64) (ns : List ByteArray) (ps : List Int) (N : Nat) (h : ∀ s ∈ ns, s.size ≤ N) : ∀ k, k ≤ ns.length → ∀ y ∈ (idxL L ns ps k).1, y.f0.size ≤ N := by
  intro k
  induction k with
  | zero => intro _ y hy; cases hy
  | succ k ih =>
    intro hk y hy
    simp only [idxL] at hy
    rcases List.mem_append.1 hy with hy | hy
    · exact ih (by omega) y hy
    · rw [List.mem_singleton.1 hy]
      refine h _ ?_
      rw [List.getD_eq_getElem?_getD, List.getElem?_eq_getElem (by omega)]
      exact List.getElem_mem _
theorem readS_size (b : List Int) (hb : Bytes8 b) : mM (readS b).1 ≤ 1099511627776 ∧ mX (readS b).2.1 ≤ 1099511627776 ∧ ∀ m ∈ (readS b).1, Bytes8 m.f1 := by
  have triv : ∀ n : Int, mM (([], [], n) : List S39 × List S43 × Int).1 ≤ 1099511627776 ∧ mX (([], [], n) : List S39 × List S43 × Int).2.1 ≤ 1099511627776 ∧ ∀ m ∈ (([], [], n) : List S39 × List S43 × Int).1, Bytes8 m.f1 := fun n => ⟨by show 0 ≤ _; omega, by show 0 ≤ _; omega, fun m hm => by cases hm⟩
  have fin : ∀ (f : Option (List Int)) (L : List S64), (∀ p ∈ L, PartOk b p) → L.length ≤ 65536 → b.length ≤ 65536 → (∀ F, f = some F → F.length ≤ 65536 ∧ Bytes8 F) → mM (finS f L).1 ≤ 1099511627776 ∧ mX (finS f L).2.1 ≤ 1099511627776 ∧ ∀ m ∈ (finS f L).1, Bytes8 m.f1 := by
    intro f L hL hl hbl hF
    unfold finS
    cases hm : memS L L.length with
    | none => exact triv 5
    | some ms =>
      have h1 := mem_ok b L hL hb L.length (Nat.le_refl _) ms hm
      have h2 := (nSt_of_mem L L.length (Nat.le_refl _) ms hm).2
      have hM : mM ms ≤ 1099511627776 := by
        have := sum_le_mul (fun m : S39 => m.f0.size + m.f1.length + 200) 65796 ms (fun m hm => by have := h1 m hm; omega)
        have h3 : ms.length * 65796 ≤ 65536 * 65796 := Nat.mul_le_mul_right _ (by omega)
        unfold mM
        omega
      cases f with
      | none => exact ⟨hM, by show 0 ≤ _; omega, fun m hm => (h1 m hm).2.2⟩
      | some F =>
        simp only []
        split
        · refine ⟨hM, ?_, fun m hm => (h1 m hm).2.2⟩
          obtain ⟨g1, g2⟩ := hF F rfl
          have hi := (indexS_ok F g2).2.1
          have hs := indexS_size F
          have hx := idxL_size L (indexS F).1 (indexS F).2.1 F.length hs (indexS F).1.length (Nat.le_refl _)
          have := sum_le_mul (fun y : S43 => y.f0.size + 200) 65736 _ (fun y hy => by have := hx y hy; omega)
          have hlen := idxL_len L (indexS F).1 (indexS F).2.1 (indexS F).1.length
          have h3 : (indexS F).1.length * 65736 ≤ 65536 * 65736 := Nat.mul_le_mul_right _ (by omega)
          unfold mX
          rw [hlen] at this
          exact Nat.le_trans this (by omega)
        · exact triv 5
  unfold readS
  split
  · exact triv 3
  · rename_i h1
    obtain ⟨hP, hPl⟩ := partsS_ok b
    split
    · split
      · exact fin none [] (fun p hp => by cases hp) (Nat.zero_le _) (by omega) (fun F h => by cases h)
      · rename_i p r h3
        rw [h3] at hP hPl
        have hr : ∀ q ∈ r, PartOk b q := fun q hq => hP q (List.mem_cons_of_mem _ hq)
        have hp := hP p List.mem_cons_self
        split
        · split
          · exact triv 5
          · exact fin (some p.f2) r hr (by simp at hPl; omega) (by omega) (fun F h => by cases h; exact ⟨by have := hp.len; omega, hp.bytes hb⟩)
        · exact fin none (p :: r) hP (by omega) (by omega) (fun F h => by cases h)
    · exact triv _
theorem cut_cap {P : Program} (t e : TypeId) (kh km : IntKind) {i : TypeInfo} (ht : P.underlying t = some (.slice e)) (hi : P.info? e = some i) (A : Option Addr) (n c : Nat) (j m : Int) (h0 : 0 ≤ j) (hm : j ≤ m) (hc : m ≤ c) :
    ∀ W : World, (Instr.slice t (.slice A n c) none (some (.int kh j)) (some (.int km m))).run P W = .ok (.slice A j.toNat m.toNat) W := by
  intro W
  have hel : P.elem t = e := by simp [Program.elem, ht]
  have hu : P.underlying t = some (.slice (P.elem t)) := by rw [hel]; exact ht
  have ha : (A.map fun x => x.add 0) = A := by cases A <;> simp [Addr.add]
  rw [run_slice_hm W t A n c hu kh km j m h0 hm hc, hel]
  simp [sizeOf, typeInfo, hi, sliced, Result.andThen, ha]
set_option maxRecDepth 100000 in
set_option maxHeartbeats 4000000 in
theorem copy_calls (A : Option Addr) (c : Nat) (b : List Int) (hl : b.length ≤ 140737488355328) (w : World) (hr : (Kd.int .u8).C w A b.length b) :
    Calls Tryd.prog 18 #[.slice A b.length c] w fun e w' => ∃ v, e = .returned v ∧ (Kd.int .u8).R 5 w' w.heap.size (fun _ => True) v b ∧ Below w.heap.size w w' := by
  have HR := Aside0.mk hr
  clear hr
  go_enter Tryd.func18, Tryd.ntmps18
  go_wp2_with (first | ((with_reducible refine gate_builtin (b := .append) (xs := #[.tmp 4, .tmp 5]) rfl ?_); at_builtin; refine Kd.R_append_rows (Kd.int .u8) (w0 := w) w.heap.size rfl (.tmp 4) (.tmp 5) 24 5 (.int .u8 0) 1 rfl Tryd.underlying24 info5 rfl (by decide) (by omega) (.slice none 0 0) ([] : List Int) b _ _ _ (fun _ => True) (fun _ => False) rfl rfl (Kd.R_nil _ _ _ _ _) HR.out (fun _ _ h => h) (fun _ h => h.elim) (fun _ _ => trivial) (Below.refl _ _) (Nat.le_refl _) (by show (0 + b.length) * 1 ≤ _; omega) ?_; intro v6 w3 ho hb hg hat; have HB3 := Aside0.mk hb; have HO3 := Aside0.mk ho; clear ho hb hg hat))
  go_ret
  exact ⟨_, rfl, HO3.out, HB3.out⟩
/-- Nothing but block g is another; this one is of bytes still. -/
structure Sp (g c : Nat) (w w' : World) : Prop where
  os : w'.os = w.os
  tape : w'.tape = w.tape
  output : w'.output = w.output
  size : w.heap.size ≤ w'.heap.size
  block : ∀ k, k < w.heap.size → k ≠ g → w'.heap[k]? = w.heap[k]?
  own : ∃ cur, w'.heap[g]? = some (.cells cur 5 (0, 0)) ∧ cur.size = c ∧ AllU8 cur
theorem setCell_heap (W : World) (g o : Nat) (v : Value) (cur : Array Value) (e : TypeId) (fr : Nat × Nat) (hg : W.heap[g]? = some (.cells cur e fr)) : (W.setCell ⟨g, o, none⟩ v).heap[g]? = some (.cells (cur.setIfInBounds o v) e fr) := by
  unfold World.setCell
  simp [Array.getElem?_modify, hg]
theorem Sp.set {g c : Nat} {w w' : World} (h : Sp g c w w') (j : Nat) (n : Int) : Sp g c w (w'.setCell ⟨g, j, none⟩ (.int .u8 n)) := by
  obtain ⟨cur, h1, h2, h3⟩ := h.own
  refine ⟨h.os, h.tape, h.output, by unfold World.setCell; simpa using h.size, fun k hk hs => (Below.heap_setCell _ _ _ _ (fun e => hs e)).trans (h.block k hk hs), _, setCell_heap _ _ _ _ _ _ _ h1, by rw [Array.size_setIfInBounds]; exact h2, fun u hu => ?_⟩
  rw [Array.toList_setIfInBounds] at hu
  rcases List.mem_or_eq_of_mem_set hu with hu | hu
  · exact h3 u hu
  · exact ⟨n, hu⟩
theorem Sp.cell {g c : Nat} {w w' : World} (h : Sp g c w w') (j : Nat) (hj : j < c) : ∃ n, w'.cell? ⟨g, j, none⟩ = some (.int .u8 n) ∧ w'.frozen? ⟨g, j, none⟩ = false := by
  obtain ⟨cur, h1, h2, h3⟩ := h.own
  obtain ⟨n, hn⟩ := h3 (cur[j]'(by omega)) (by simp)
  refine ⟨n, ?_, ?_⟩
  · unfold World.cell?
    rw [h1]
    show cur[j]? = _
    rw [Array.getElem?_eq_getElem (by omega), hn]
  · unfold World.frozen?
    rw [h1]; simp
set_option maxRecDepth 100000 in
set_option maxHeartbeats 4000000 in
theorem spoil_calls (g n c : Nat) (w : World) (h : Sp g c w w) (hn : n ≤ c) (hc : c ≤ 9223372036854775807) :
    Calls Tryd.prog 19 #[.slice (some ⟨g, 0, none⟩) n c, .int .u8 7] w fun e w' => e = .returned (.tuple #[]) ∧ Sp g c w w' := by
  have HS := Aside0.mk h
  obtain ⟨i5, hi5, _, hsz5, _⟩ := info_parts info5
  have hcut := cut_cap (P := Tryd.prog) 24 5 .i64 .i64 Tryd.underlying24 hi5 (some ⟨g, 0, none⟩) n c ((c : Nat) : Int) ((c : Nat) : Int) (by omega) (by omega) (by omega)
  rw [Int.toNat_natCast] at hcut
  clear h hi5 hsz5
  go_enter Tryd.func19, Tryd.ntmps19
  go_wp2_with fail
  go_loopw [5] (fun v5 wr => ∃ k : Nat, v5 = .int .i64 k ∧ Aside0 (k ≤ c) ∧ Aside0 (Sp g c w wr)) (fun v5 _ => c - (intOf v5).toNat)
  case atStart => exact ⟨0, rfl, ⟨Nat.zero_le _⟩, HS⟩
  case round =>
    obtain ⟨wk, rfl⟩ : ∃ q, q = wr := ⟨_, rfl⟩
    obtain ⟨k, rfl, HK, HP⟩ := hrel
    clear hcut
    by_cases hk : k < c
    · have hkI : (k : Int) < (c : Int) := by omega
      have hk0 : (0 : Int) ≤ (k : Int) := by omega
      obtain ⟨m, f0, z0⟩ := HP.out.cell k hk
      have hwk : wrap64 ((k : Int) + 1) = ((k + 1 : Nat) : Int) := by unfold wrap64; omega
      go_wp2
      go_roundw
      case rel => exact ⟨k + 1, by first | rfl | (simp; done) | (rw [hwk]; done), ⟨hk⟩, ⟨HP.out.set k _⟩⟩
      case measure => first | (simp [intOf]; done) | (simp [intOf]; omega)
    · have hkI : ¬ (k : Int) < (c : Int) := by omega
      go_wp2
      first | (go_ret; exact ⟨rfl, HP.out⟩) | (refine bodyPost_ret (results_none rfl _ _ _) rfl ?_; exact ⟨rfl, HP.out⟩) | (go_end0; exact ⟨rfl, HP.out⟩)
/-- Behind some spoiling: what is not of bytes stays, what is of bytes through and through is so still. -/
structure Iv (W2 : World) (base : Nat) (wr : World) : Prop where
  below : Below base W2 wr
  size : W2.heap.size ≤ wr.heap.size
  other : ∀ (k : Nat) (cells : Array Value) (t : TypeId), t ≠ 5 → W2.heap[k]? = some (.cells cells t (0, 0)) → wr.heap[k]? = some (.cells cells t (0, 0))
  full : ∀ (k : Nat) (cur : Array Value), W2.heap[k]? = some (.cells cur 5 (0, 0)) → base ≤ k → AllU8 cur → ∃ cur', wr.heap[k]? = some (.cells cur' 5 (0, 0)) ∧ cur'.size = cur.size ∧ AllU8 cur'
theorem Iv.start (W : World) (base : Nat) : Iv W base W := ⟨Below.refl _ _, Nat.le_refl _, fun _ _ _ _ h => h, fun k cur h _ ha => ⟨cur, h, rfl, ha⟩⟩
theorem Iv.sp {W2 wr w' : World} {base g c : Nat} {cur0 : Array Value} (h : Iv W2 base wr) (hb : base ≤ g) (hg : W2.heap[g]? = some (.cells cur0 5 (0, 0))) (hc : cur0.size = c) (hs : Sp g c wr w') : Iv W2 base w' := by
  refine ⟨⟨hs.os.trans h.below.os, hs.tape.trans h.below.tape, hs.output.trans h.below.output, Nat.le_trans h.below.size hs.size, fun k hk => ?_⟩, Nat.le_trans h.size hs.size, fun k cells t ht hk => ?_, fun k cur hk hbk ha => ?_⟩
  · by_cases hkr : k < wr.heap.size
    · exact (hs.block k hkr (by omega)).trans (h.below.block k hk)
    · have := h.size
      have hgl := (Array.getElem?_eq_some_iff.1 hg).1
      omega
  · have hkl := (Array.getElem?_eq_some_iff.1 hk).1
    refine (hs.block k (Nat.lt_of_lt_of_le hkl h.size) (fun e => ?_)).trans (h.other k cells t ht hk)
    subst e
    rw [hk] at hg
    injection hg with hg
    injection hg with _ hg
    exact ht hg
  · by_cases e : k = g
    · subst e
      obtain ⟨cur', h1, h2, h3⟩ := hs.own
      rw [hk] at hg
      injection hg with hg
      injection hg with hg
      exact ⟨cur', h1, by rw [h2, ← hc, hg], h3⟩
    · obtain ⟨cur', h1, h2, h3⟩ := h.full k cur hk hbk ha
      exact ⟨cur', (hs.block k (Array.getElem?_eq_some_iff.1 h1).1 e).trans h1, h2, h3⟩
/-- Member i's bytes: nil, or a block of the call's own. -/
theorem member_at {W2 : World} {base : Nat} {ok : Nat → Prop} {A : Option Addr} {c1 : Nat} {l : List S39} (h : k39f.R 39 W2 base ok (.slice A l.length c1) l) (i : Nat) (hi : i < l.length) :
    ∃ g1 vi, A = some ⟨g1, 0, none⟩ ∧ (∀ wr, Iv W2 base wr → wr.cell? ⟨g1, i * 2 + 1, none⟩ = some vi) ∧
      (vi = .slice none 0 0 ∨ ∃ g n c cur, vi = .slice (some ⟨g, 0, none⟩) n c ∧ n ≤ c ∧ c ≤ maxLen ∧ base ≤ g ∧ W2.heap[g]? = some (.cells cur 5 (0, 0)) ∧ cur.size = c ∧ AllU8 cur) := by
  obtain ⟨_, inner, ⟨hlen, hown⟩, hreps⟩ := h
  rcases hown with ⟨_, h0⟩ | ⟨g1, cap, cur, hv, hb, hh, hn, hm, hs, htake⟩
  · omega
  · injection hv with hA _ _
    have hM := hreps.2 i l[i] (List.getElem?_eq_getElem hi)
    obtain ⟨hM1, hM2⟩ := hM
    obtain ⟨v2, hcs, hR⟩ := k39_openM hM1
    rw [hcs] at hM2
    have hz : k39f.sz = 2 := rfl
    rw [hz] at hcs htake
    have hcell : W2.cell? ⟨g1, i * 2 + 1, none⟩ = some v2 := by
      unfold World.cell?
      rw [hh]
      show cur[i * 2 + 1]? = some v2
      have e1 : ((inner.drop (i * 2)).take 2)[1]? = some v2 := by rw [hcs]; rfl
      rw [List.getElem?_take_of_lt (by omega), List.getElem?_drop, ← htake, List.getElem?_take_of_lt (by omega), Array.getElem?_toList] at e1
      exact e1
    refine ⟨g1, v2, hA, fun wr hI => ?_, ?_⟩
    · have := hI.other g1 cur 39 (by decide) hh
      unfold World.cell? at hcell ⊢
      rw [this]
      rw [hh] at hcell
      exact hcell
    · obtain ⟨inner2, _, ho2⟩ := Kd.R_own hR
      rcases ho2 with ⟨e, _⟩ | ⟨g, cap2, cur2, e, hb2, hh2, hn2, hm2, hs2, _⟩
      · exact .inl e
      · obtain ⟨_, _, cur3, h3, h4⟩ := hM2 v2 (by simp) g (by rw [e]; rfl)
        rw [hh2] at h3
        injection h3 with h3
        injection h3 with h3
        exact .inr ⟨g, _, cap2, cur2, e, hn2, hm2, hb2, hh2, by rw [hs2]; exact Nat.mul_one _, by rw [h3]; exact h4⟩
set_option maxRecDepth 100000 in
set_option maxHeartbeats 4000000 in
theorem spoil_nil (w : World) : Calls Tryd.prog 19 #[.slice none 0 0, .int .u8 7] w fun e w' => e = .returned (.tuple #[]) ∧ w' = w := by
  obtain ⟨i5, hi5, _, hsz5, _⟩ := info_parts info5
  have hcut := cut_cap (P := Tryd.prog) 24 5 .i64 .i64 Tryd.underlying24 hi5 none 0 0 (0 : Int) (0 : Int) (by omega) (by omega) (by omega)
  clear hi5 hsz5
  go_enter Tryd.func19, Tryd.ntmps19
  go_wp2_with fail
  go_loopw [5] (fun v5 wr => v5 = .int .i64 0 ∧ Aside0 (wr = w)) (fun v5 _ => 0)
  case atStart => exact ⟨rfl, ⟨rfl⟩⟩
  case round =>
    obtain ⟨wk, rfl⟩ : ∃ q, q = wr := ⟨_, rfl⟩
    obtain ⟨rfl, HW⟩ := hrel
    clear hcut
    go_wp2
    first | (go_ret; exact ⟨rfl, HW.out⟩) | (refine bodyPost_ret (results_none rfl _ _ _) rfl ?_; exact ⟨rfl, HW.out⟩) | (go_end0; exact ⟨rfl, HW.out⟩)
set_option maxRecDepth 100000 in
set_option maxHeartbeats 16000000 in
theorem fresh_walk (A : Option Addr) (c : Nat) (b : List Int) (hc : b.length ≤ c) (hl : b.length ≤ 140737488355328) (hb8 : Bytes8 b) (w : World) (hv : Vars w) (hr : (Kd.int .u8).C w A b.length b) :
    Calls Tryd.prog 7 #[.slice A b.length c] w fun e w' => e = .returned (.bool true) ∧ Below w.heap.size w w' := by
  have HV := Aside0.mk hv
  have HR := Aside0.mk hr
  have HC := Aside0.mk hc
  have HL := Aside0.mk hl
  have HB8 := Aside0.mk hb8
  clear hv hr hc hl hb8
  go_enter Tryd.func7, Tryd.ntmps7
  go_wp2_with fail
  refine (copy_calls A c b HL.out w HR.out).mono ?_
  intro e w1 h1
  obtain ⟨v1, h1, hr1, hb1⟩ := h1
  subst h1
  obtain ⟨A1, c1, rfl, hc1, hC1⟩ := Kd.R_reads hr1
  have HB1 := Aside0.mk hb1
  have HC1 := Aside0.mk hC1
  have HCC1 := Aside0.mk hc1
  clear hr1 hb1 hC1 hc1
  simp only []
  go_wp2_with fail
  refine (readf_calls A c b HC.out HB8.out w1 (HV.out.below HB1.out) (Kd.C_below HR.out HB1.out)).mono ?_
  intro e w2 h2
  obtain ⟨v2, v3, h2, hr2, hr3, hb2⟩ := h2
  subst h2
  have hsz := readS_size b HB8.out
  obtain ⟨⟨l, x, er⟩, hQ⟩ : ∃ B, readS b = B := ⟨_, rfl⟩
  have HQ := Aside0.mk hQ
  rw [hQ] at hr2 hr3 hsz ⊢
  simp only [] at hr2 hr3 hsz ⊢
  have HS := Aside0.mk hsz
  obtain ⟨A2, c2, rfl⟩ := Kd.R_slice hr2
  obtain ⟨A3, c3, rfl⟩ := Kd.R_slice hr3
  have HR2 := Aside0.mk hr2
  have HB2 := Aside0.mk hb2
  have hlen : l.length ≤ 9000000000000000000 := by have h1 := len_mM l; have h2 := hsz.1; omega
  have HLEN := Aside0.mk hlen
  clear hQ hsz hr2 hr3 hb2 hlen
  go_wp2_with fail
  go_loopw [7] (fun v7 wr => ∃ k : Nat, v7 = .int .i64 k ∧ Aside0 (k ≤ l.length) ∧ Aside0 (Iv w2 w1.heap.size wr)) (fun v7 _ => l.length - (intOf v7).toNat)
  case atStart => exact ⟨0, rfl, ⟨Nat.zero_le _⟩, ⟨Iv.start _ _⟩⟩
  case round =>
    obtain ⟨wk, rfl⟩ : ∃ q, q = wr := ⟨_, rfl⟩
    obtain ⟨k, rfl, HK, HI⟩ := hrel
    by_cases hk : k < l.length
    · have hkI : (k : Int) < (l.length : Int) := by omega
      have hk0 : (0 : Int) ≤ (k : Int) := by omega
      obtain ⟨g1, vi, hA, hcell, hvi⟩ := member_at HR2.out k hk
      subst hA
      have f0 := hcell _ HI.out
      have hll := HLEN.out
      have hwk : wrap64 ((k : Int) + 1) = ((k + 1 : Nat) : Int) := by unfold wrap64; omega
      clear hcell
      rcases hvi with rfl | ⟨g, n, cg, cur, rfl, hn, hcg, hbg, hg, hcs, ha⟩
      · go_wp2_with fail
        refine (spoil_nil _).mono ?_
        intro e w4 h4
        obtain ⟨h4, h44⟩ := h4
        subst h4
        subst h44
        go_wp2_with fail
        go_roundw
        case rel => exact ⟨k + 1, by first | rfl | (simp; done) | (rw [hwk]; done), ⟨hk⟩, HI⟩
        case measure => first | (simp [intOf]; done) | (simp [intOf]; omega)
      · obtain ⟨cur', h1, h2, h3⟩ := HI.out.full g cur hg hbg ha
        have HSP : Aside0 (Sp g cg wk wk) := ⟨⟨rfl, rfl, rfl, Nat.le_refl _, fun _ _ _ => rfl, cur', h1, h2.trans hcs, h3⟩⟩
        have HN := Aside0.mk hn
        have HG := Aside0.mk hg
        have HBG := Aside0.mk hbg
        have HCS := Aside0.mk hcs
        have HCG : Aside0 (cg ≤ 9223372036854775807) := ⟨by simp only [maxLen] at hcg; omega⟩
        clear hn hcg hbg hg hcs ha h1 h2 h3
        go_wp2_with fail
        refine (spoil_calls g n cg _ HSP.out HN.out HCG.out).mono ?_
        intro e w4 h4
        obtain ⟨h4, h44⟩ := h4
        subst h4
        have HI4 := Aside0.mk (HI.out.sp HBG.out HG.out HCS.out h44)
        clear h44 HI
        go_wp2_with fail
        go_roundw
        case rel => exact ⟨k + 1, by first | rfl | (simp; done) | (rw [hwk]; done), ⟨hk⟩, HI4⟩
        case measure => first | (simp [intOf]; done) | (simp [intOf]; omega)
    · have hkI : ¬ (k : Int) < (l.length : Int) := by omega
      have HW3 : Aside0 (Below w1.heap.size w1 wk) := ⟨(HB2.out).trans HI.out.below⟩
      have HB3 : Aside0 (Below w.heap.size w wk) := ⟨HB1.out.trans (HW3.out.mono HB1.out.size)⟩
      have HC13 := Aside0.mk (Kd.C_below HC1.out HW3.out)
      clear HI HB2 HW3 HR2
      go_wp2_with fail
      refine (read_calls A c b HC.out HB8.out wk (HV.out.below HB3.out) (Kd.C_below HR.out HB3.out)).mono ?_
      intro e w5 h5
      obtain ⟨v5, v6, h5, hr5, hr6, hb5⟩ := h5
      subst h5
      rw [HQ.out] at hr5 hr6 ⊢
      simp only [] at hr5 hr6 ⊢
      obtain ⟨A5, c5, rfl, hc5, hC5⟩ := Kd.R_reads hr5
      obtain ⟨A6, c6, rfl⟩ := Kd.R_slice hr6
      have HB5 : Aside0 (Below w.heap.size w w5) := ⟨HB3.out.trans (hb5.mono HB3.out.size)⟩
      have HC15 := Aside0.mk (Kd.C_below HC13.out hb5)
      have HC5 := Aside0.mk hC5
      have HL5 := Aside0.mk hc5
      clear hr5 hr6 hC5 hc5 hb5 HC13 HB3
      go_wp2_with fail
      refine (refread_calls A1 c1 b HCC1.out HB8.out w5 HC15.out).mono ?_
      intro e w6 h6
      obtain ⟨v7, v8, h6, hr7, hr8, hb6⟩ := h6
      subst h6
      rw [HQ.out] at hr7 hr8 ⊢
      simp only [] at hr7 hr8 ⊢
      obtain ⟨A7, c7, rfl, hc7, hC7⟩ := Kd.R_reads hr7
      obtain ⟨A8, c8, rfl⟩ := Kd.R_slice hr8
      have HB6 : Aside0 (Below w.heap.size w w6) := ⟨HB5.out.trans (hb6.mono HB5.out.size)⟩
      have HC16 := Aside0.mk (Kd.C_below HC15.out hb6)
      have HC56 := Aside0.mk (Kd.C_below HC5.out hb6)
      have HC7 := Aside0.mk hC7
      have HL7 := Aside0.mk hc7
      clear hr7 hr8 hC7 hc7 hb6 HC15 HC5 HB5 HQ
      obtain ⟨K, hK⟩ := members_self l HLEN.out (fun m hm => by have := mM_mem hm; have := HS.out.1; omega)
      obtain ⟨K3, hK3⟩ := same_self b (by have := HL.out; omega)
      have HK := Aside0.mk hK
      have HK3 := Aside0.mk hK3
      clear hK hK3
      go_wp2_with fail
      refine (bulwarkref00_Same.calls K3 A c b A1 c1 b true _ (Kd.C_below HR.out HB6.out) HC.out HC16.out HCC1.out HK3.out).mono ?_
      intro e w7 h7
      obtain ⟨h7, hd7⟩ := h7
      subst h7
      have hb7 := hd7.below
      have HB7 : Aside0 (Below w.heap.size w w7) := ⟨HB6.out.trans (hb7.mono HB6.out.size)⟩
      have HC57 := Aside0.mk (Kd.C_below HC56.out hb7)
      have HC77 := Aside0.mk (Kd.C_below HC7.out hb7)
      clear hd7 hb7 HC56 HC7 HC16 HB6
      simp only []
      go_wp2_with fail
      refine (bulwarklaw10_members.calls K A5 c5 l A7 c7 l true _ HC57.out HL5.out HC77.out HL7.out HK.out).mono ?_
      intro e w8 h8
      obtain ⟨h8, hd8⟩ := h8
      subst h8
      have hb8 := hd8.below
      have HB8' : Aside0 (Below w.heap.size w w8) := ⟨HB7.out.trans (hb8.mono HB7.out.size)⟩
      clear hd8 hb8 HC57 HC77 HB7
      simp only []
      go_wp2_with fail
      refine (lives_calls _ (HV.out.below HB8'.out)).mono ?_
      intro e w9 h9
      obtain ⟨h9, hb9⟩ := h9
      subst h9
      have HB9 : Aside0 (Below w.heap.size w w9) := ⟨HB8'.out.trans (hb9.mono HB8'.out.size)⟩
      clear hb9
      simp only []
      go_wp2_with fail
      go_ret
      exact ⟨rfl, HB9.out⟩
end Go.Proofs.YtdjmahmbofhnpaaDoor.Ar
