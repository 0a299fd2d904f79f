/- The law ArOnce walked: what is read, put and read again, is the same. -/
import Derived.Test.YtdjmahmbofhnpaaDoorQBack
namespace Go.Proofs.YtdjmahmbofhnpaaDoor.Ar
open Go.RowKit Go.Maps Go.WideMaps Go.Proofs.YtdjmahmbofhnpaaDoorW.PrintWords Go.Proofs.YtdjmahmbofhnpaaDoorW.PrintLast Go.Proofs.YtdjmahmbofhnpaaDoor.QAr
set_option linter.unusedVariables false
set_option linter.unusedSimpArgs false
theorem sum_le_mul {α : Type} (f : α → Nat) (K : Nat) (l : List α) (h : ∀ x ∈ l, f x ≤ K) : (l.map f).sum ≤ l.length * K := by
  induction l with
  | nil => simp
  | cons x r ih =>
    have h1 := h x List.mem_cons_self
    have h2 := ih (fun y hy => h y (List.mem_cons_of_mem _ hy))
    simp only [List.map_cons, List.sum_cons, List.length_cons, Nat.add_mul, Nat.one_mul]
    omega
theorem mem_ok (b : List Int) (L : List S64) (hL : ∀ p ∈ L, PartOk b p) (hb : Bytes8 b) : ∀ k, k ≤ L.length → ∀ ms, memS L k = some ms → ∀ m ∈ ms, m.f0.size ≤ 60 ∧ m.f1.length ≤ b.length ∧ Bytes8 m.f1 := by
  intro k
  induction k with
  | zero => intro _ ms h m hm; cases h; cases hm
  | succ k ih =>
    intro hk ms h m hm
    rw [memS_succ L k (by omega)] at h
    cases hs : memS L k with
    | none => rw [hs] at h; cases h
    | some q =>
      rw [hs] at h
      unfold memStep at h
      simp only [] at h
      split at h
      · cases h
      · split at h
        · cases h
          rcases List.mem_append.1 hm with hm | hm
          · exact ih (by omega) q hs m hm
          · rw [List.mem_singleton.1 hm]
            have hp := hL _ (getD_mem (show k < L.length by omega))
            refine ⟨?_, hp.len, hp.bytes hb⟩
            have h1 := hp.name
            unfold trimSfx
            split
            · rw [ByteArray.size_extract]; omega
            · exact h1
        · cases h
theorem indexL_size (b : List Int) (N : Nat) : ∀ (m i : Nat) (rest : ByteArray) (ns : List ByteArray) (ps : List Int), rest.size ≤ N → (∀ s ∈ ns, s.size ≤ N) → ∀ s ∈ (indexL b m i rest ns ps).1, s.size ≤ N := by
  intro m
  induction m with
  | zero => intro i rest ns ps _ h; exact h
  | succ m ih =>
    intro i rest ns ps hr h
    simp only [indexL]
    have hc := cutS_size rest
    split
    · exact ih _ _ _ _ (by omega) (fun s hs => by
        rcases List.mem_append.1 hs with hs | hs
        · exact h s hs
        · rw [List.mem_singleton.1 hs]; omega)
    · intro s hs; cases hs
theorem indexS_size (b : List Int) : ∀ s ∈ (indexS b).1, s.size ≤ b.length := by
  unfold indexS
  split
  · intro s hs; cases hs
  · split
    · intro s hs; cases hs
    · exact indexL_size b b.length _ _ _ _ _ (by rw [size_ofNums, List.length_drop]; omega) (fun s hs => by cases hs)
theorem idxL_size (L : List S64) (ns : List ByteArray) (ps : List Int) (N : Nat) (h : ∀ s ∈ ns, s.size ≤ N) : ∀ k, k ≤ ns.length → ∀ y ∈ (idxL L ns ps k).1, y.f0.size ≤ N := by
  intro k
  induction k with
  | zero => intro _ y hy; cases hy
  | succ k ih =>
    intro hk y hy
    simp only [idxL] at hy
    rcases List.mem_append.1 hy with hy | hy
    · exact ih (by omega) y hy
    · rw [List.mem_singleton.1 hy]
      refine h _ ?_
      rw [List.getD_eq_getElem?_getD, List.getElem?_eq_getElem (by omega)]
      exact List.getElem_mem _
theorem readS_size (b : List Int) (hb : Bytes8 b) : mM (readS b).1 ≤ 1099511627776 ∧ mX (readS b).2.1 ≤ 1099511627776 ∧ ∀ m ∈ (readS b).1, Bytes8 m.f1 := by
  have triv : ∀ n : Int, mM (([], [], n) : List S39 × List S43 × Int).1 ≤ 1099511627776 ∧ mX (([], [], n) : List S39 × List S43 × Int).2.1 ≤ 1099511627776 ∧ ∀ m ∈ (([], [], n) : List S39 × List S43 × Int).1, Bytes8 m.f1 := fun n => ⟨by show 0 ≤ _; omega, by show 0 ≤ _; omega, fun m hm => by cases hm⟩
  have fin : ∀ (f : Option (List Int)) (L : List S64), (∀ p ∈ L, PartOk b p) → L.length ≤ 65536 → b.length ≤ 65536 → (∀ F, f = some F → F.length ≤ 65536 ∧ Bytes8 F) → mM (finS f L).1 ≤ 1099511627776 ∧ mX (finS f L).2.1 ≤ 1099511627776 ∧ ∀ m ∈ (finS f L).1, Bytes8 m.f1 := by
    intro f L hL hl hbl hF
    unfold finS
    cases hm : memS L L.length with
    | none => exact triv 5
    | some ms =>
      have h1 := mem_ok b L hL hb L.length (Nat.le_refl _) ms hm
      have h2 := (nSt_of_mem L L.length (Nat.le_refl _) ms hm).2
      have hM : mM ms ≤ 1099511627776 := by
        have := sum_le_mul (fun m : S39 => m.f0.size + m.f1.length + 200) 65796 ms (fun m hm => by have := h1 m hm; omega)
        have h3 : ms.length * 65796 ≤ 65536 * 65796 := Nat.mul_le_mul_right _ (by omega)
        unfold mM
        omega
      cases f with
      | none => exact ⟨hM, by show 0 ≤ _; omega, fun m hm => (h1 m hm).2.2⟩
      | some F =>
        simp only []
        split
        · refine ⟨hM, ?_, fun m hm => (h1 m hm).2.2⟩
          obtain ⟨g1, g2⟩ := hF F rfl
          have hi := (indexS_ok F g2).2.1
          have hs := indexS_size F
          have hx := idxL_size L (indexS F).1 (indexS F).2.1 F.length hs (indexS F).1.length (Nat.le_refl _)
          have := sum_le_mul (fun y : S43 => y.f0.size + 200) 65736 _ (fun y hy => by have := hx y hy; omega)
          have hlen := idxL_len L (indexS F).1 (indexS F).2.1 (indexS F).1.length
          have h3 : (indexS F).1.length * 65736 ≤ 65536 * 65736 := Nat.mul_le_mul_right _ (by omega)
          unfold mX
          rw [hlen] at this
          exact Nat.le_trans this (by omega)
        · exact triv 5
  unfold readS
  split
  · exact triv 3
  · rename_i h1
    obtain ⟨hP, hPl⟩ := partsS_ok b
    split
    · split
      · exact fin none [] (fun p hp => by cases hp) (Nat.zero_le _) (by omega) (fun F h => by cases h)
      · rename_i p r h3
        rw [h3] at hP hPl
        have hr : ∀ q ∈ r, PartOk b q := fun q hq => hP q (List.mem_cons_of_mem _ hq)
        have hp := hP p List.mem_cons_self
        split
        · split
          · exact triv 5
          · exact fin (some p.f2) r hr (by simp at hPl; omega) (by omega) (fun F h => by cases h; exact ⟨by have := hp.len; omega, hp.bytes hb⟩)
        · exact fin none (p :: r) hP (by omega) (by omega) (fun F h => by cases h)
    · exact triv _
set_option maxRecDepth 100000 in
set_option maxHeartbeats 16000000 in
theorem once_walk (A : Option Addr) (c : Nat) (b : List Int) (hc : b.length ≤ c) (hb8 : Bytes8 b) (w : World) (hv : Vars w) (hr : Kd.C (Kd.int .u8) w A b.length b) :
    Calls Tryd.prog 6 #[.slice A b.length c] w fun e w' => e = .returned (.bool true) ∧ Below w.heap.size w w' := by
  have HV := Aside0.mk hv
  have HR := Aside0.mk hr
  have HC := Aside0.mk hc
  have HB8 := Aside0.mk hb8
  clear hv hr hc hb8
  go_enter Tryd.func6, Tryd.ntmps6
  go_wp2_with fail
  refine (read_calls A c b HC.out HB8.out w HV.out HR.out).mono ?_
  intro e w2 h2
  obtain ⟨v1, v2, h2, hr1, hr2, hb2⟩ := h2
  subst h2
  have HB2 := Aside0.mk hb2
  have hsz := readS_size b HB8.out
  have her := readS_err b
  have hpr := put_read b
  obtain ⟨⟨l, x, er⟩, hq⟩ : ∃ q, readS b = q := ⟨_, rfl⟩
  rw [hq] at hr1 hr2 hsz her hpr ⊢
  simp only [] at hr1 hr2 hsz her hpr ⊢
  obtain ⟨A1, c1, rfl, hc1, hC1⟩ := Kd.R_reads hr1
  obtain ⟨A2, c2, rfl, hc2, hC2⟩ := Kd.R_reads hr2
  have HC1 := Aside0.mk hC1
  have HC2 := Aside0.mk hC2
  have HCC1 := Aside0.mk hc1
  have HCC2 := Aside0.mk hc2
  have HSZ := Aside0.mk hsz
  have HER := Aside0.mk her
  have HPR := Aside0.mk hpr
  clear hr1 hr2 hsz her hpr hc1 hC1 hc2 hC2 hb2 hq
  by_cases he : er = 0
  · subst he
    have HPQ := Aside0.mk (HPR.out rfl)
    clear HPR HER
    go_wp2_with fail
    refine (put_calls A1 c1 l HCC1.out A2 c2 x HCC2.out HSZ.out.1 HSZ.out.2.1 w2 (HV.out.below HB2.out) HC1.out HC2.out).mono ?_
    intro e w3 h3
    obtain ⟨v3, h3, ho3, hb3⟩ := h3
    subst h3
    have hB8 := put_bytes l x HSZ.out.2.2
    have hrd := read_put l x
    have hpq := HPQ.out
    obtain ⟨⟨B, f⟩, hB⟩ : ∃ B, putS l x = B := ⟨_, rfl⟩
    rw [hB] at ho3 hB8 hrd hpq ⊢
    simp only [] at ho3 hB8 hrd hpq ⊢
    obtain ⟨A3, c3, rfl, hc3, hC3⟩ := ho3.reads
    have HB3 : Aside0 (Below w.heap.size w w3) := ⟨HB2.out.trans (hb3.mono HB2.out.size)⟩
    have HC13 := Aside0.mk (Kd.C_below HC1.out hb3)
    have HC23 := Aside0.mk (Kd.C_below HC2.out hb3)
    have HC3 := Aside0.mk hC3
    have HCC3 := Aside0.mk hc3
    have HBB := Aside0.mk hB8
    have HRD := Aside0.mk hrd
    have HPF := Aside0.mk hpq
    clear hB ho3 hB8 hrd hpq hc3 hC3 hb3 HC1 HC2 HPQ HB2
    by_cases hf : f = 0
    · subst hf
      have HRQ := Aside0.mk (HRD.out rfl)
      clear HRD HPF
      go_wp2_with fail
      refine (read_calls A3 c3 B HCC3.out HBB.out w3 (HV.out.below HB3.out) HC3.out).mono ?_
      intro e w4 h4
      obtain ⟨v4, v5, h4, hr4, hr5, hb4⟩ := h4
      subst h4
      rw [HRQ.out] at hr4 hr5 ⊢
      simp only [] at hr4 hr5 ⊢
      obtain ⟨A4, c4, rfl, hc4, hC4⟩ := Kd.R_reads hr4
      obtain ⟨A5, c5, rfl, hc5, hC5⟩ := Kd.R_reads hr5
      have HB4 : Aside0 (Below w.heap.size w w4) := ⟨HB3.out.trans (hb4.mono HB3.out.size)⟩
      have HC14 := Aside0.mk (Kd.C_below HC13.out hb4)
      have HC24 := Aside0.mk (Kd.C_below HC23.out hb4)
      have HC4 := Aside0.mk hC4
      have HC5 := Aside0.mk hC5
      have HCC4 := Aside0.mk hc4
      have HCC5 := Aside0.mk hc5
      clear hr4 hr5 hb4 hC4 hC5 hc4 hc5 HRQ HBB HCC3 HC3 HB3 HC13 HC23
      obtain ⟨K, hK⟩ := members_self l (by have := len_mM l; have := HSZ.out.1; omega) (fun m hm => by have := mM_mem hm; have := HSZ.out.1; omega)
      obtain ⟨K2, hK2⟩ := indexes_self x (by have := len_mX x; have := HSZ.out.2.1; omega)
      have HK := Aside0.mk hK
      have HK2 := Aside0.mk hK2
      clear hK hK2
      go_wp2_with fail
      refine (bulwarklaw10_members.calls K A1 c1 l A4 c4 l true _ HC14.out HCC1.out HC4.out HCC4.out HK.out).mono ?_
      intro e w5 h5
      obtain ⟨h5, hd5⟩ := h5
      subst h5
      have hb5 := hd5.below
      have HB5 : Aside0 (Below w.heap.size w w5) := ⟨HB4.out.trans (hb5.mono HB4.out.size)⟩
      have HC55 := Aside0.mk (Kd.C_below HC5.out hb5)
      have HC25 := Aside0.mk (Kd.C_below HC24.out hb5)
      clear hd5 hb5 HB4 HC5 HC24
      simp only []
      go_wp2_with fail
      refine (bulwarklaw10_indexes.calls K2 A2 c2 x A5 c5 x true _ HC25.out HCC2.out HC55.out HCC5.out HK2.out).mono ?_
      intro e w6 h6
      obtain ⟨h6, hd6⟩ := h6
      subst h6
      have hb6 := hd6.below
      have HB6 : Aside0 (Below w.heap.size w w6) := ⟨HB5.out.trans (hb6.mono HB5.out.size)⟩
      clear hd6 hb6 HB5 HC55 HC25
      simp only []
      go_wp2_with fail
      refine (lives_calls _ (HV.out.below HB6.out)).mono ?_
      intro e w7 h7
      obtain ⟨h7, hb7⟩ := h7
      subst h7
      have HB7 : Aside0 (Below w.heap.size w w7) := ⟨HB6.out.trans (hb7.mono HB6.out.size)⟩
      clear hb7 HB6
      simp only []
      go_wp2_with fail
      go_ret
      exact ⟨rfl, HB7.out⟩
    · have hf3 : f = 3 := by rcases HPF.out with h | h; exact absurd h hf; exact h
      subst hf3
      clear hf
      go_wp2_with fail
      refine (lives_calls _ (HV.out.below HB3.out)).mono ?_
      intro e w7 h7
      obtain ⟨h7, hb7⟩ := h7
      subst h7
      have HB7 : Aside0 (Below w.heap.size w w7) := ⟨HB3.out.trans (hb7.mono HB3.out.size)⟩
      clear hb7
      simp only []
      go_wp2_with fail
      go_ret
      exact ⟨rfl, HB7.out⟩
  · obtain ⟨rfl, rfl⟩ := HER.out he
    have her1 : (er != 0) = true := by simpa using he
    have her2 : (er == 0) = false := by simpa using he
    clear HPR
    go_wp2_with fail
    refine (lives_calls _ (HV.out.below HB2.out)).mono ?_
    intro e w7 h7
    obtain ⟨h7, hb7⟩ := h7
    subst h7
    have HB7 : Aside0 (Below w.heap.size w w7) := ⟨HB2.out.trans (hb7.mono HB2.out.size)⟩
    clear hb7
    simp only []
    go_wp2_with fail
    go_ret
    exact ⟨rfl, HB7.out⟩
end Go.Proofs.YtdjmahmbofhnpaaDoor.Ar
