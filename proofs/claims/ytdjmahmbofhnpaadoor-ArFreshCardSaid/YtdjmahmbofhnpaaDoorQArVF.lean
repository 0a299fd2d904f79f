/- ar.Read by contract: readS. -/
import Derived.Test.YtdjmahmbofhnpaaDoorQArSF
import Derived.Test.YtdjmahmbofhnpaaDoorQArT
import Derived.Test.YtdjmahmbofhnpaaDoorQArx13
import Derived.Test.YtdjmahmbofhnpaaDoorQArYF
namespace Go.Proofs.YtdjmahmbofhnpaaDoor.Ar
open Go.RowKit Go.Maps Go.WideMaps Go.Proofs.YtdjmahmbofhnpaaDoorW.PrintWords Go.Proofs.YtdjmahmbofhnpaaDoorW.PrintLast Go.Proofs.YtdjmahmbofhnpaaDoor.QAr
set_option linter.unusedVariables false
set_option linter.unusedSimpArgs false
theorem info39 : (Tryd.prog.info? 39).map (fun i => (i.zero, i.size, i.bytes)) = some (some (.agg #[.string ⟨#[]⟩, .slice none 0 0]), 2, 40) := by kernel_rfl
theorem info43 : (Tryd.prog.info? 43).map (fun i => (i.zero, i.size, i.bytes)) = some (some (.agg #[.string ⟨#[]⟩, .int .i64 0]), 2, 24) := by kernel_rfl
theorem trimSfx_f (s : ByteArray) (hs : s.size ≤ 9223372036854775807) : strings_TrimSuffix.f s (⟨#[47]⟩ : ByteArray) = some (trimSfx s) := by
  unfold strings_TrimSuffix.f stringslite_TrimSuffix.f stringslite_HasSuffix.f trimSfx slashS
  have z : ((⟨#[47]⟩ : ByteArray).size : Int) = 1 := rfl
  rw [z]
  by_cases h1 : 1 ≤ s.size
  · obtain ⟨m, hm⟩ : ∃ m, s.size - 1 = m := ⟨_, rfl⟩
    have e : wrap64 ((s.size : Int) - 1) = (m : Int) := by rw [w64 (by omega) (by omega)]; omega
    rw [e, hm, if_pos (show (s.size : Int) ≥ 1 by omega), if_pos (show (0 : Int) ≤ (m : Int) by omega), if_pos (show (m : Int) ≤ (s.size : Int) by omega)]
    simp only [Int.toNat_natCast, Option.bind_some]
    by_cases h2 : s.extract m s.size = (⟨#[47]⟩ : ByteArray)
    · rw [h2, if_pos (show (1 ≤ s.size ∧ (⟨#[47]⟩ : ByteArray) = ⟨#[47]⟩) from ⟨h1, rfl⟩), if_pos (by simp), if_pos (show (0 : Int) ≤ (m : Int) by omega), if_pos (show (m : Int) ≤ (s.size : Int) by omega)]; rfl
    rw [if_neg (show ¬ (1 ≤ s.size ∧ s.extract m s.size = (⟨#[47]⟩ : ByteArray)) from fun h => h2 h.2), if_neg (fun h => toList_ne2 h2 (by simpa using h))]; rfl
  rw [if_neg (show ¬ (s.size : Int) ≥ 1 by omega), if_neg (show ¬ (1 ≤ s.size ∧ s.extract (s.size - 1) s.size = (⟨#[47]⟩ : ByteArray)) from fun h => h1 h.1)]; rfl
theorem trim_calls (s : ByteArray) (hs : s.size ≤ 9223372036854775807) (w : World) : Calls Tryd.prog 30 #[.string s, .string ⟨#[47]⟩] w fun e w' => e = .returned (.string (trimSfx s)) ∧ Below w.heap.size w w' :=
  (strings_TrimSuffix.calls s _ _ w (trimSfx_f s hs)).mono fun e w' h => ⟨h.1, h.2.below⟩
theorem PRf.cut {w : World} {base c : Nat} {A : Option Addr} {xs : List S64} (h : PRf w base A xs) (hm : 1 ≤ xs.length) (hc : xs.length ≤ c) :
    ∃ A', (∀ W : World, (Instr.slice 49 (.slice A xs.length c) (some (.int .i64 1)) none none).run Tryd.prog W = .ok (.slice A' (xs.drop 1).length (c - 1)) W) ∧ PRf w base A' (xs.drop 1) := by
  obtain ⟨i, hi, _, hs, _⟩ := info_parts info53
  refine ⟨if c = 1 then A else A.map (·.add (1 * 3)), fun W => ?_, h.drop hm hc⟩
  rw [List.length_drop]
  exact cut_from 49 53 .i64 Tryd.underlying49 hi 3 hs A xs.length c 1 (by omega) (by omega) W
/-- What is so of each part. -/
structure PartOk (b : List Int) (p : S64) : Prop where
  name : p.f0.size ≤ 60
  at0 : 0 ≤ p.f1
  at1 : p.f1 ≤ b.length
  len : p.f2.length ≤ b.length
  bytes : Bytes8 b → Bytes8 p.f2
theorem stepS_ok {b : List Int} {a a' : Nat} {p : S64} (h : stepS b a = .ok (p, a')) : PartOk b p := by
  have h0 := stepS_gt h
  unfold stepS at h
  split at h
  · cases h
  split at h
  · cases h
  split at h
  · split at h
    · cases h
    cases h
    refine ⟨?_, ?_, ?_, ?_, fun hb x hx => hb x (List.mem_of_mem_drop (List.mem_of_mem_take hx))⟩
    · refine Nat.le_trans (trimS_size _) ?_
      rw [ByteArray.size_extract]
      omega
    · exact Int.natCast_nonneg _
    · show (a : Int) ≤ _
      omega
    show (List.take _ (List.drop _ b)).length ≤ _
    rw [List.length_take, List.length_drop]
    omega
  cases h
theorem partsL_ok (b : List Int) : ∀ (f a : Nat) (acc : List S64), (∀ p ∈ acc, PartOk b p) → acc.length ≤ a → acc.length ≤ b.length → (∀ p ∈ (partsL f b a acc).1, PartOk b p) ∧ (partsL f b a acc).1.length ≤ b.length := by
  intro f
  induction f with
  | zero => intro a acc h1 h2 h3; exact ⟨h1, h3⟩
  | succ f ih =>
    intro a acc h1 h2 h3
    simp only [partsL]
    split
    · exact ⟨h1, h3⟩
    split
    · exact ⟨(fun p hp => by cases hp), Nat.zero_le _⟩
    cases hs : stepS b (even a) with
    | error e => exact ⟨(fun p hp => by cases hp), Nat.zero_le _⟩
    | ok q =>
      obtain ⟨p, a'⟩ := q
      have hg := stepS_gt hs
      have he : a ≤ even a := by unfold even; omega
      refine ih a' (acc ++ [p]) (fun q hq => ?_) (by rw [List.length_append]; show acc.length + 1 ≤ _; omega) (by rw [List.length_append]; show acc.length + 1 ≤ _; omega)
      rcases List.mem_append.1 hq with hq | hq
      · exact h1 q hq
      rw [List.mem_singleton.1 hq]; exact stepS_ok hs
theorem partsS_ok (b : List Int) : (∀ p ∈ (partsS b).1, PartOk b p) ∧ (partsS b).1.length ≤ b.length := by
  unfold partsS
  split
  · exact ⟨(fun p hp => by cases hp), Nat.zero_le _⟩
  split
  · exact partsL_ok b _ 8 [] (fun p hp => by cases hp) (Nat.zero_le _) (Nat.zero_le _)
  exact ⟨(fun p hp => by cases hp), Nat.zero_le _⟩
theorem getD_mem {l : List S64} {k : Nat} (h : k < l.length) : l.getD k z64 ∈ l := by rw [List.getD_eq_getElem?_getD, List.getElem?_eq_getElem h]; exact List.getElem_mem h
theorem indexL_ok (b : List Int) (hb : Bytes8 b) : ∀ (m i : Nat) (rest : ByteArray) (ns : List ByteArray) (ps : List Int), ns.length = ps.length → (∀ z ∈ ps, 0 ≤ z ∧ z < 4294967296) →
    (indexL b m i rest ns ps).1.length = (indexL b m i rest ns ps).2.1.length ∧ (indexL b m i rest ns ps).1.length ≤ ns.length + m ∧ ∀ z ∈ (indexL b m i rest ns ps).2.1, 0 ≤ z ∧ z < 4294967296 := by
  intro m
  induction m with
  | zero => intro i rest ns ps h1 h2; exact ⟨h1, Nat.le_refl _, h2⟩
  | succ m ih =>
    intro i rest ns ps h1 h2
    simp only [indexL]
    split
    · obtain ⟨g1, g2, g3⟩ := ih (i + 1) (cutS rest).2.1 (ns ++ [(cutS rest).1]) (ps ++ [bigV b (4 + 4 * i)]) (by simp [h1]) (fun z hz => by
        rcases List.mem_append.1 hz with hz | hz
        · exact h2 z hz
        rw [List.mem_singleton.1 hz]; exact bigV_range hb _)
      refine ⟨g1, ?_, g3⟩
      rw [List.length_append] at g2
      have : [(cutS rest).1].length = 1 := rfl
      omega
    exact ⟨rfl, Nat.zero_le _, fun z hz => by cases hz⟩
theorem indexS_ok (b : List Int) (hb : Bytes8 b) : (indexS b).1.length = (indexS b).2.1.length ∧ (indexS b).1.length ≤ b.length ∧ ∀ z ∈ (indexS b).2.1, 0 ≤ z ∧ z < 4294967296 := by
  unfold indexS
  split
  · exact ⟨rfl, Nat.zero_le _, fun z hz => by cases hz⟩
  split
  · exact ⟨rfl, Nat.zero_le _, fun z hz => by cases hz⟩
  obtain ⟨g1, g2, g3⟩ := indexL_ok b hb (bigV b 0).toNat 0 (strOfNums (b.drop (4 + 4 * (bigV b 0).toNat))) [] [] rfl (fun z hz => by cases hz)
  refine ⟨g1, ?_, g3⟩
  have : ([] : List ByteArray).length = 0 := rfl
  omega
theorem at_S {w : World} {A : Option Addr} {n : Nat} {xs : List ByteArray} (h : Kd.C Kd.string w A n xs) (i : Nat) (h1 : i < n) : ∃ ad, A = some ad ∧ w.cell? (ad.add i) = some (.string (xs.getD i ⟨#[]⟩)) := by
  obtain ⟨ad, c, e, _, hK, hc0⟩ := Kd.C_get h (⟨#[]⟩ : ByteArray) (i : Int) (by omega) (by omega)
  have hK2 : c = [.string (xs.getD (i : Int).toNat ⟨#[]⟩)] := hK
  have h2 := hc0 0 _ (by rw [hK2]; rfl)
  rw [Int.toNat_natCast] at h2
  have h3 : w.cell? (ad.add (i * 1 + 0)) = some (.string (xs.getD i ⟨#[]⟩)) := h2
  rw [show i * 1 + 0 = i by omega] at h3
  exact ⟨ad, e, h3⟩
theorem finS_some {f : Option (List Int)} {l : List S64} {ms : List S39} (h : memS l l.length = some ms) : finS f l = match f with
    | none => (ms, [], 0)
    | some f => if (indexS f).2.2 && (idxL l (indexS f).1 (indexS f).2.1 (indexS f).1.length).2 then (ms, (idxL l (indexS f).1 (indexS f).2.1 (indexS f).1.length).1, 0) else ([], [], 5) := by
  unfold finS; rw [h]; cases f <;> rfl
theorem cell_turned {w w1 : World} {b g j : Nat} {v : Value} (h : w.mapTurned w1 b) (hc : w.cell? ⟨g, j, none⟩ = some v) (hne : g ≠ b) : w1.cell? ⟨g, j, none⟩ = some v := by
  have hlt : g < w.heap.size := by
    rcases Nat.lt_or_ge g w.heap.size with h | h
    · exact h
    unfold World.cell? at hc; rw [Array.getElem?_eq_none h] at hc; cases hc
  rw [World.cell?_of_block (h.grown.block g hlt (fun e => hne (Option.some.inj e)))]
  exact hc
def Stop (p : Prop) : Prop := p
theorem id_stop {p : Prop} (h : Stop p) : p := h
attribute [local go_sem] run_makeMap_plain
def T13_19 : Bool × List (List Nat × List Nat) := (true, [([], []), ([], []), ([], []), ([], []), ([3], [3]), ([], []), ([0, 1, 0, 1], [0, 1]), ([2, 4, 5, 6, 0, 1, 2, 3, 4, 5, 6], [2, 4, 5])])
theorem tab13_19 : rtab .any (opsOf Tryd.f13 19) = T13_19 := by kernel_rfl
def B13_19 : List Nat := [0, 0, 0, 0, 8, 0, 3, 127]
theorem bits13_19 : waitsOk T13_19.2 B13_19 = true := by kernel_rfl
def T13_8 : Bool × List (List Nat × List Nat) := (true, [([], []), ([0], [0]), ([1], [1]), ([2], [2]), ([], []), ([4], [4]), ([3, 0, 1, 2, 3], [3]), ([5, 6, 0, 1, 2, 3, 4, 5, 6], [0, 4, 5])])
theorem tab13_8 : rtab .any (opsOf Tryd.f13 8) = T13_8 := by kernel_rfl
def B13_8 : List Nat := [0, 1, 3, 7, 0, 16, 15, 127]
theorem bits13_8 : waitsOk T13_8.2 B13_8 = true := by kernel_rfl
set_option maxRecDepth 100000 in
set_option maxHeartbeats 16000000 in
theorem readf_calls (A : Option Addr) (c : Nat) (b : List Int) (hc : b.length ≤ c) (hb8 : Bytes8 b) (w : World) (hv : Vars w) (hr : (Kd.int .u8).C w A b.length b) :
    Calls Tryd.prog 13 #[.slice A b.length c] w fun e w' => ∃ v1 v2, e = .returned (.tuple #[v1, v2, .int .i64 (readS b).2.2]) ∧ k39f.R 39 w' w.heap.size (fun _ => True) v1 (readS b).1 ∧ k43.R 43 w' w.heap.size (fun _ => True) v2 (readS b).2.1 ∧ Below w.heap.size w w' := by
  have HR := Aside0.mk hr
  have HV := Aside0.mk hv
  have HC := Aside0.mk hc
  have HB8 := Aside0.mk hb8
  obtain ⟨r, hrr⟩ : ∃ r, readS b = r := ⟨_, rfl⟩
  rw [hrr]
  have HRr := Aside0.mk hrr
  clear hv hr hrr hb8 hc
  go_enter Tryd.func13, Tryd.ntmps13
  by_cases hbl : 65536 < b.length
  · obtain rfl : r = ([], [], 3) := HRr.out.symm.trans (by unfold readS; rw [if_pos hbl])
    have hbI : (b.length : Int) > 65536 := by omega
    go_wp2_with fail
    refine bodyPost_ret (v := .tuple #[.slice none 0 0, .slice none 0 0, .int .i64 3]) (by simp [results, Tryd.results13, go_sem]) rfl ?_
    exact ⟨_, _, rfl, Kd.R_nil _ _ _ _ _, Kd.R_nil _ _ _ _ _, Below.refl _ _⟩
  have hbI : ¬ (b.length : Int) > 65536 := by omega
  have HL : Aside0 (b.length ≤ 65536) := ⟨by omega⟩
  go_wp2_with fail
  refine (parts_calls A c b HC.out HL.out w HV.out HR.out).mono ?_
  intro e w3 h3
  obtain ⟨v5, h3, hr3, hb3⟩ := h3
  subst h3
  obtain ⟨⟨ls, er⟩, hps⟩ : ∃ q, partsS b = q := ⟨_, rfl⟩
  rw [hps] at hr3 ⊢
  have HPS := Aside0.mk hps
  obtain ⟨A5, c5, rfl, hc5, hpr⟩ := PRf.of hr3
  simp only [] at hpr hc5
  have HC5 := Aside0.mk hc5
  have HPR := Aside0.mk hpr
  have HB3 := Aside0.mk hb3
  clear hps hr3 hb3 hpr hc5 hbl hbI
  simp only []
  by_cases her : er = 0
  · have HOKs : Aside0 ((∀ p ∈ ls, PartOk b p) ∧ ls.length ≤ b.length) := ⟨by have h := partsS_ok b; rw [HPS.out] at h; exact h⟩
    subst her
    by_cases hls : 0 < ls.length
    · have hlsI : (0 : Int) < (ls.length : Int) := by omega
      obtain ⟨ad, v2, hA, e0, _, e2, hv2⟩ := HPR.out.at_ 0 hls
      subst hA
      have hz : ad.add (0 * 3) = ad := by simp [Addr.add]
      rw [hz] at e0 e2
      obtain ⟨p, hp⟩ : ∃ p, ls.getD 0 z64 = p := ⟨_, rfl⟩
      rw [hp] at e0 hv2
      have HPP := Aside0.mk hp
      have HV2 := Aside0.mk hv2
      have HLS : Aside0 (ls = p :: ls.drop 1) := ⟨by cases ls with | nil => exact absurd hls (by simp) | cons q t => rw [← hp]; rfl⟩
      obtain ⟨nm, hnm⟩ : ∃ x, p.f0 = x := ⟨_, rfl⟩
      rw [hnm] at e0
      have HNM := Aside0.mk hnm
      clear hz hp hv2 hnm
      by_cases hsl : nm = (⟨#[47]⟩ : ByteArray)
      · subst hsl
        obtain ⟨A1, hcut, hpr1⟩ := HPR.out.cut hls HC5.out
        have HLL : Aside0 (∀ q ∈ ls.drop 1, PartOk b q) := ⟨fun q hq => HOKs.out.1 q (List.mem_of_mem_drop hq)⟩
        have HLN : Aside0 ((ls.drop 1).length ≤ 65536) := ⟨by rw [List.length_drop]; have := HOKs.out.2; have := HL.out; omega⟩
        have hpk : PartOk b p := by have h := HOKs.out.1 _ (getD_mem hls); rwa [HPP.out] at h
        have HPK := Aside0.mk hpk
        have HRR : Aside0 ((if p.f2 = [] then ([], [], 5) else finS (some p.f2) (ls.drop 1)) = r) := ⟨by have h := HRr.out; unfold readS at h; rw [if_neg (show ¬ 65536 < b.length by have := HL.out; omega), HPS.out] at h; rw [← h]; show _ = (match ls with | [] => finS none [] | p :: r => if p.f0 = slashS then (if p.f2 = [] then ([], [], 5) else finS (some p.f2) r) else finS none (p :: r)); rw [HLS.out]; exact (if_pos HNM.out).symm⟩
        obtain ⟨L, hL⟩ : ∃ x, ls.drop 1 = x := ⟨_, rfl⟩
        simp only [hL] at hcut hpr1 HLL HLN HRR
        obtain ⟨Af, cf, rfl, hcf, hCf⟩ := Kd.R_reads HV2.out.1
        obtain ⟨F, hF⟩ : ∃ x, p.f2 = x := ⟨_, rfl⟩
        have hfb := hpk.bytes HB8.out
        have hfl := hpk.len
        rw [hF] at e2 hcf hCf hfb hfl
        simp only [hF] at HRR
        have HCF := Aside0.mk hcf
        have HFC3 := Aside0.mk hCf
        have HFB := Aside0.mk hfb
        have HFN : Aside0 (F.length ≤ 65536) := ⟨Nat.le_trans hfl HL.out⟩
        have HPL3 := Aside0.mk hpr1
        clear hcf hCf hfb hfl hpk hpr1 hF hL HPS HRr HLS HOKs HPR HV2 HPP HNM HPK
        go_upto_region 8 with fail
        clear e0
        refine start_ (n := 8) (S := fun w' => w'.cell? ⟨ad.block, ad.off + 2, none⟩ = some (.slice Af F.length cf)) (ds := []) #[false, false, false, false, false, false, false, false] (by kernel_rfl) rfl rfl e2 (fun hHeld => ?_)
        refine with_tabW tab13_8 bits13_8 (fun HT_ HW_ => ?_)
        have HBQ : Aside0 (Below w.heap.size w w3.drew) := ⟨below_drew HB3.out⟩
        have HPL := Aside0.mk (HPL3.out.below (below_drew (Below.refl _ _)))
        have HFC := Aside0.mk (Kd.C_below HFC3.out (below_drew (Below.refl _ _)))
        generalize w3.drew = wq at HBQ HPL HFC hHeld ⊢
        clear e2 HB3 HPL3 HFC3
        refine pure_ (i := 0) (N := some 42) (v := ?_) (a' := ?_) #[true, false, false, false, false, false, false, false] rfl rfl (any_of HT_.out (by kernel_rfl)) (fun _ _ _ h => h) (Or.inl ⟨by rfl, ?_⟩) ?_ ?_
        rotate_left
        · intro w'
          go_simp
          with_reducible rfl
        rotate_left
        · skip
          simp only [Act.put, List.setIfInBounds_toArray, List.set_cons_zero, List.set_cons_succ, i64_w, i32_w]
          rfl
        refine pure_ (i := 1) (N := some 43) (v := ?_) (a' := ?_) #[true, true, false, false, false, false, false, false] rfl rfl (any_of HT_.out (by kernel_rfl)) (fun _ _ _ h => h) (Or.inl ⟨by rfl, ?_⟩) ?_ ?_
        rotate_left
        · intro w'
          go_simp
          with_reducible rfl
        rotate_left
        · skip
          simp only [Act.put, List.setIfInBounds_toArray, List.set_cons_zero, List.set_cons_succ, i64_w, i32_w]
          rfl
        refine pure_ (i := 2) (N := some 44) (v := ?_) (a' := ?_) #[true, true, true, false, false, false, false, false] rfl rfl (any_of HT_.out (by kernel_rfl)) (fun _ _ _ h => h) (Or.inl ⟨by rfl, ?_⟩) ?_ ?_
        rotate_left
        · intro w'
          go_simp
          with_reducible rfl
        rotate_left
        · skip
          simp only [Act.put, List.setIfInBounds_toArray, List.set_cons_zero, List.set_cons_succ, i64_w, i32_w]
          rfl
        refine take_ (i := 3) (N := some 45) (v := ?_) (a' := ?_) #[true, true, true, true, false, false, false, false] rfl rfl (take_ofW HT_.out HW_.out (by kernel_rfl)) (fun _ _ _ h => h) (Or.inl ⟨by rfl, ?_⟩) hHeld ?_ ?_
        rotate_left
        · intro w' s0
          go_simp
          with_reducible rfl
        rotate_left
        · skip
          simp only [Act.put, List.setIfInBounds_toArray, List.set_cons_zero, List.set_cons_succ, i64_w, i32_w]
          rfl
        refine pure_ (i := 4) (N := some 46) (v := ?_) (a' := ?_) #[true, true, true, true, true, false, false, false] rfl rfl (any_of HT_.out (by kernel_rfl)) (fun _ _ _ h => h) (Or.inl ⟨by rfl, ?_⟩) ?_ ?_
        rotate_left
        · intro w'
          go_simp
          with_reducible rfl
        rotate_left
        · skip
          simp only [Act.put, List.setIfInBounds_toArray, List.set_cons_zero, List.set_cons_succ, i64_w, i32_w]
          rfl
        refine pure_ (i := 5) (N := some 47) (v := ?_) (a' := ?_) #[true, true, true, true, true, true, false, false] rfl rfl (any_of HT_.out (by kernel_rfl)) (fun _ _ _ h => h) (Or.inl ⟨by rfl, ?_⟩) ?_ ?_
        rotate_left
        · intro w'
          go_simp
          with_reducible rfl
        rotate_left
        · skip
          simp only [Act.put, List.setIfInBounds_toArray, List.set_cons_zero, List.set_cons_succ, i64_w, i32_w]
          rfl
        refine one_ (i := 6) (N := some 7) #[true, true, true, true, true, true, true, false] rfl rfl (one_of HT_.out (by kernel_rfl)) (by decide) (fun K hK => ?_)
        refine value_ (w1 := ?_) (v := ?_) (by rfl) rfl ?_ ?_
        rotate_left 2
        · go_simp
          constructor
          · rfl
          rfl
        refine hK.out _ _ hHeld (fun hH => ?_)
        clear hK K
        refine norm_ (a' := ?_) ?_ ?_
        rotate_left
        · show Act.put _ (some 7) _ = _
          simp only [Act.put, List.setIfInBounds_toArray, List.set_cons_zero, List.set_cons_succ, i64_w, i32_w]
          rfl
        clear hHeld
        refine one_ (i := 7) (N := some 5) #[true, true, true, true, true, true, true, true] rfl rfl (one_of HT_.out (by kernel_rfl)) (by decide) (fun K hK => ?_)
        refine value_ (w1 := ?_) (v := ?_) (by rfl) rfl ?_ ?_
        rotate_left 2
        · go_simp
          constructor
          · rfl
          rfl
        refine hK.out _ _ hH (fun hH2 => ?_)
        clear hK K
        refine norm_ (a' := ?_) ?_ ?_
        rotate_left
        · show Act.put _ (some 5) _ = _
          simp only [Act.put, List.setIfInBounds_toArray, List.set_cons_zero, List.set_cons_succ, i64_w, i32_w]
          rfl
        refine done_ (done_of HT_.out (by kernel_rfl)) ?_
        clear hH hH2 hcut
        by_cases hf0 : F = []
        · have hfr := HRR.out
          rw [if_pos hf0] at hfr
          subst hf0
          obtain rfl := hfr.symm
          go_wp2_with fail
          refine bodyPost_ret (v := .tuple #[.slice none 0 0, .slice none 0 0, .int .i64 5]) (by simp [results, Tryd.results13, go_sem]) rfl ?_
          exact ⟨_, _, rfl, Kd.R_nil _ _ _ _ _, Kd.R_nil _ _ _ _ _, HBQ.out⟩
        have hfp : 0 < F.length := List.length_pos_iff.2 hf0
        have hfq : ((F.length : Int) == 0) = false := by simp; omega
        obtain ⟨af, hAf, _⟩ := HFC.out.2.2 hfp
        cases hAf
        have HFL : Aside0 (finS (some F) L = r) := ⟨by have h := HRR.out; rwa [if_neg hf0] at h⟩
        have HLO := HLL
        clear HRR hf0 HLL
        go_upto_region 11 with fail
        clear hfq
        go_wp2_with fail
        go_loopw [8, 55] (fun v8 v55 wr => ∃ (k : Nat) (ms : List S39), v55 = .int .i64 k ∧ Aside0 (k ≤ L.length) ∧ Aside0 (RdSt wq wr w.heap.size wq.heap.size (wq.heap.size + 1) L k ms v8)) (fun _ v55 _ => L.length - (intOf v55).toNat)
        case atStart => exact ⟨0, [], rfl, ⟨Nat.zero_le _⟩, ⟨RdSt.start L⟩⟩
        case round =>
          obtain ⟨wo, rfl⟩ : ∃ q, q = wr := ⟨_, rfl⟩
          obtain ⟨k, ms, rfl, HK, HS⟩ := hrel
          have hln := HLN.out
          by_cases hk : k < L.length
          · have hkI : (k : Int) < (L.length : Int) := by omega
            have HWI : Aside0 (wrap64 ((k : Int) + 1) = ((k + 1 : Nat) : Int)) := ⟨w64n (j := 1) rfl (by omega)⟩
            obtain ⟨ad2, v2, hA2, e0, e1, e2, hv2⟩ := (HPL.out.below HS.out.below).at_ k hk
            cases hA2
            have hpo := HLO.out _ (getD_mem hk)
            have hstep := memS_succ L k hk
            obtain ⟨p, hp⟩ : ∃ p, L.getD k z64 = p := ⟨_, rfl⟩
            rw [hp] at e0 e1 hv2 hpo hstep
            have HPO := Aside0.mk hpo
            have HPP := Aside0.mk hp
            obtain ⟨A2, c2, rfl, hc2, _⟩ := Kd.R_reads hv2.1
            have HV2 := Aside0.mk hv2
            have hz1 : p.f0.size ≤ 9223372036854775807 := Nat.le_trans hpo.name (by decide)
            have HZ1 := Aside0.mk hz1
            have hst2 : memS L (k + 1) = memStep (some ms) p := by rw [hstep, HS.out.is]
            have HST := Aside0.mk hst2
            clear hp hpo hv2 hz1 hstep hst2 hc2 hln
            go_upto_region 16 with fail
            clear e0 e1 e2
            generalize hwb : wo.alloc (.cells #[.string p.f0, .int .i64 p.f1, .slice A2 p.f2.length c2] 53 (0, 0)) = wb
            have HSB : Aside0 (RdSt wq wb w.heap.size wq.heap.size (wq.heap.size + 1) L k ms u8) := ⟨by rw [← hwb]; exact HS.out.to (below_alloc (Below.refl _ _) _)⟩
            have b0 : wb.cell? ⟨wo.heap.size, 0, none⟩ = some (.string p.f0) := by rw [← hwb]; exact blk_cell (heap_alloc_new _ _) 0
            have b1 : wb.cell? ⟨wo.heap.size, 1, none⟩ = some (.int .i64 p.f1) := by rw [← hwb]; exact blk_cell (heap_alloc_new _ _) 1
            have b2 : wb.cell? ⟨wo.heap.size, 2, none⟩ = some (.slice A2 p.f2.length c2) := by rw [← hwb]; exact blk_cell (heap_alloc_new _ _) 2
            have HVB : Aside0 (RF wb w.heap.size (fun _ => True) (.slice A2 p.f2.length c2) p.f2) := ⟨by rw [← hwb]; exact RF.alloc HV2.out _⟩
            have HGT : Aside0 (wq.heap.size + 2 ≤ wo.heap.size) := ⟨HS.out.two⟩
            obtain ⟨bx, hbx⟩ : ∃ x, wo.heap.size = x := ⟨_, rfl⟩
            rw [hbx] at b0 b1 b2 HGT ⊢
            clear hwb hbx HS HV2
            have TC := Aside0.mk (fun w => trim_calls p.f0 HZ1.out w)
            obtain ⟨nm, hnm⟩ : ∃ x, p.f0 = x := ⟨_, rfl⟩
            obtain ⟨s, hs⟩ : ∃ x, trimSfx p.f0 = x := ⟨_, rfl⟩
            simp only [hs] at TC
            rw [hnm] at b0 HZ1
            simp only [hnm] at TC ⊢
            have HSZ : Aside0 (s.size ≤ 9223372036854775807) := ⟨by rw [← hs, hnm]; unfold trimSfx; split; (rw [ByteArray.size_extract]; have := HZ1.out; omega); exact HZ1.out⟩
            have HTS := Aside0.mk hs
            have HNM := Aside0.mk hnm
            clear hs hnm
            go_wp2_with fail
            refine (TC.out _).mono ?_
            clear TC
            intro e w4 h4
            obtain ⟨h4, hb4⟩ := h4
            subst h4
            have HS4 := Aside0.mk (HSB.out.to hb4)
            have HV4 := Aside0.mk (RF.below HVB.out hb4)
            replace b0 := pw_cell_below hb4 b0
            replace b1 := pw_cell_below hb4 b1
            replace b2 := pw_cell_below hb4 b2
            clear HSB HVB hb4
            simp only []
            by_cases hsn : s = nm
            · have HSE := Aside0.mk hsn
              subst hsn
              obtain rfl : r = ([], [], 5) := by rw [← HFL.out]; exact finS_bad _ _ (k + 1) (by rw [HST.out]; unfold memStep; simp only []; rw [if_pos (by rw [HTS.out, HNM.out])]) hk
              go_wp2_with fail
              refine bodyPost_ret (v := .tuple #[.slice none 0 0, .slice none 0 0, .int .i64 5]) (by simp [results, Tryd.results13, go_sem]) rfl ?_
              exact ⟨_, _, rfl, Kd.R_nil _ _ _ _ _, Kd.R_nil _ _ _ _ _, HBQ.out.trans (HS4.out.below.mono HBQ.out.size)⟩
            have hq1 := toList_ne2 hsn
            have hq2 : (s.toList == nm.toList) = false := beq_eq_false_iff_ne.2 hq1
            have HNE := Aside0.mk hsn
            obtain ⟨ok, hok⟩ : ∃ b, nameOk s = b := ⟨_, rfl⟩
            have HOK := Aside0.mk hok
            have NC := Aside0.mk (fun w => name_calls s HSZ.out w)
            simp only [hok] at NC
            clear hok hsn
            go_wp2_with fail
            refine (NC.out _).mono ?_
            clear NC
            intro e w5 h5
            obtain ⟨h5, hb5⟩ := h5
            subst h5
            have HS5 := Aside0.mk (HS4.out.to hb5)
            have HV5 := Aside0.mk (RF.below HV4.out hb5)
            replace b0 := pw_cell_below hb5 b0
            replace b1 := pw_cell_below hb5 b1
            replace b2 := pw_cell_below hb5 b2
            clear HS4 HV4 hb5
            have hl := HS5.out.seen.look (s := s) HSZ.out
            obtain ⟨se, hse⟩ : ∃ b, seenB (ms.map S39.f0) s = b := ⟨_, rfl⟩
            rw [hse] at hl
            have HSE := Aside0.mk hse
            clear hse
            simp only []
            cases ok with
            | false =>
              obtain rfl : r = ([], [], 5) := by rw [← HFL.out]; exact finS_bad _ _ (k + 1) (by rw [HST.out]; unfold memStep; simp only []; rw [if_neg (by rw [HTS.out, HNM.out]; exact HNE.out), HTS.out, HOK.out, if_neg (by simp)]) hk
              go_wp2_with fail
              refine bodyPost_ret (v := .tuple #[.slice none 0 0, .slice none 0 0, .int .i64 5]) (by simp [results, Tryd.results13, go_sem]) rfl ?_
              exact ⟨_, _, rfl, Kd.R_nil _ _ _ _ _, Kd.R_nil _ _ _ _ _, HBQ.out.trans (HS5.out.below.mono HBQ.out.size)⟩
            | true =>
              cases se with
              | true =>
                obtain rfl : r = ([], [], 5) := by rw [← HFL.out]; exact finS_bad _ _ (k + 1) (by rw [HST.out]; unfold memStep; simp only []; rw [if_neg (by rw [HTS.out, HNM.out]; exact HNE.out), HTS.out, HOK.out, HSE.out, if_neg (by simp)]) hk
                go_wp2_with fail
                refine bodyPost_ret (v := .tuple #[.slice none 0 0, .slice none 0 0, .int .i64 5]) (by simp [results, Tryd.results13, go_sem]) rfl ?_
                exact ⟨_, _, rfl, Kd.R_nil _ _ _ _ _, Kd.R_nil _ _ _ _ _, HBQ.out.trans (HS5.out.below.mono HBQ.out.size)⟩
              | false =>
                go_upto_region 19 with fail
                clear hl hq1 hq2 b0
                refine start_ (n := 8) (S := fun w' => w'.cell? ⟨bx, 1, none⟩ = some (.int .i64 p.f1)) (ds := []) #[false, false, false, false, false, false, false, false] (by kernel_rfl) rfl rfl b1 (fun hHeld => ?_)
                refine with_tabW tab13_19 bits13_19 (fun HT_ HW_ => ?_)
                have HS6 : Aside0 (RdSt wq w5.drew w.heap.size wq.heap.size (wq.heap.size + 1) L k ms u8) := ⟨HS5.out.to (below_drew (Below.refl _ _))⟩
                have HV6 := Aside0.mk (RF.drew HV5.out)
                have b26 : w5.drew.cell? ⟨bx, 2, none⟩ = some (.slice A2 p.f2.length c2) := b2
                generalize w5.drew = w6 at HS6 HV6 b26 hHeld ⊢
                clear HS5 HV5 b1 b2
                refine pure_ (i := 0) (N := some 77) (v := ?_) (a' := ?_) #[true, false, false, false, false, false, false, false] rfl rfl (any_of HT_.out (by kernel_rfl)) (fun _ _ _ h => h) (Or.inl ⟨by rfl, ?_⟩) ?_ ?_
                rotate_left
                · intro w'
                  go_simp
                  with_reducible rfl
                rotate_left
                · skip
                  simp only [Act.put, List.setIfInBounds_toArray, List.set_cons_zero, List.set_cons_succ, i64_w, i32_w]
                  rfl
                refine pure_ (i := 1) (N := some 78) (v := ?_) (a' := ?_) #[true, true, false, false, false, false, false, false] rfl rfl (any_of HT_.out (by kernel_rfl)) (fun _ _ _ h => h) (Or.inl ⟨by rfl, ?_⟩) ?_ ?_
                rotate_left
                · intro w'
                  go_simp
                  with_reducible rfl
                rotate_left
                · skip
                  simp only [Act.put, List.setIfInBounds_toArray, List.set_cons_zero, List.set_cons_succ, i64_w, i32_w]
                  rfl
                refine pure_ (i := 2) (N := some 79) (v := ?_) (a' := ?_) #[true, true, true, false, false, false, false, false] rfl rfl (any_of HT_.out (by kernel_rfl)) (fun _ _ _ h => h) (Or.inl ⟨by rfl, ?_⟩) ?_ ?_
                rotate_left
                · intro w'
                  go_simp
                  with_reducible rfl
                rotate_left
                · skip
                  simp only [Act.put, List.setIfInBounds_toArray, List.set_cons_zero, List.set_cons_succ, i64_w, i32_w]
                  rfl
                refine pure_ (i := 3) (N := some 80) (v := ?_) (a' := ?_) #[true, true, true, true, false, false, false, false] rfl rfl (any_of HT_.out (by kernel_rfl)) (fun _ _ _ h => h) (Or.inl ⟨by rfl, ?_⟩) ?_ ?_
                rotate_left
                · intro w'
                  go_simp
                  with_reducible rfl
                rotate_left
                · skip
                  simp only [Act.put, List.setIfInBounds_toArray, List.set_cons_zero, List.set_cons_succ, i64_w, i32_w]
                  rfl
                refine take_ (i := 4) (N := some 81) (v := ?_) (a' := ?_) #[true, true, true, true, true, false, false, false] rfl rfl (take_ofW HT_.out HW_.out (by kernel_rfl)) (fun _ _ _ h => h) (Or.inl ⟨by rfl, ?_⟩) hHeld ?_ ?_
                rotate_left
                · intro w' s0
                  go_simp
                  with_reducible rfl
                rotate_left
                · skip
                  simp only [Act.put, List.setIfInBounds_toArray, List.set_cons_zero, List.set_cons_succ, i64_w, i32_w]
                  rfl
                refine pure_ (i := 5) (N := some 82) (v := ?_) (a' := ?_) #[true, true, true, true, true, true, false, false] rfl rfl (any_of HT_.out (by kernel_rfl)) (fun _ _ _ h => h) (Or.inl ⟨by rfl, ?_⟩) ?_ ?_
                rotate_left
                · intro w'
                  go_simp
                  with_reducible rfl
                rotate_left
                · skip
                  simp only [Act.put, List.setIfInBounds_toArray, List.set_cons_zero, List.set_cons_succ, i64_w, i32_w]
                  rfl
                obtain ⟨w7, hst7, hm7, ht7⟩ := HS6.out.seen.store s HSZ.out (by have h1 := memS_len _ _ _ HS6.out.is; have h2 := HLN.out; rw [List.length_map]; unfold maxLen; omega)
                have b17 := cell_turned ht7 hHeld (by have := HGT.out; omega)
                have b27 := cell_turned ht7 b26 (by have := HGT.out; omega)
                refine one_ (i := 6) (N := none) #[true, true, true, true, true, true, true, false] rfl rfl (one_of HT_.out (by kernel_rfl)) (by decide) (fun K hK => ?_)
                refine skip_ (w1 := ?_) (by rfl) rfl ?_ ?_
                rotate_left
                · go_simp
                  rfl
                refine hK.out _ _ b17 (fun hH7 => ?_)
                clear hK K
                clear hHeld
                have HV7 := Aside0.mk (RF.mapped HV6.out ht7)
                have HR7 := Aside0.mk (R_mapped HS6.out.row ht7)
                have HM7 := Aside0.mk (hm7 HSE.out)
                have HB7 : Aside0 (Below wq.heap.size wq w7) := ⟨pw_below_grown HS6.out.below _ HS6.out.below.size ht7.grown (fun q hq => by cases hq; omega)⟩
                have HI7 := Aside0.mk (HS6.out.map.grown ht7.grown (by simp))
                have HIS := Aside0.mk HS6.out.is
                have HOW := Aside0.mk HS6.out.own
                have HTW6 := Aside0.mk HS6.out.two
                have hsz7 := ht7.grown.size
                clear hst7 hm7 ht7 HS6 HV6 b26 hH7
                obtain ⟨w8, hst8, hm8, ht8⟩ := HI7.out.store (by have := HLN.out; unfold maxLen; omega) p.f1 (by rw [HPP.out]) (by have := HPO.out.at0; omega) (by have := HPO.out.at1; have := HL.out; omega)
                have b18 := cell_turned ht8 b17 (by have := HGT.out; omega)
                have b28 := cell_turned ht8 b27 (by have := HGT.out; omega)
                refine one_ (i := 7) (N := none) #[true, true, true, true, true, true, true, true] rfl rfl (one_of HT_.out (by kernel_rfl)) (by decide) (fun K hK => ?_)
                refine skip_ (w1 := ?_) (by rfl) rfl ?_ ?_
                rotate_left
                · go_simp
                  rfl
                refine hK.out _ _ b18 (fun hH8 => ?_)
                clear hK K
                refine done_ (done_of HT_.out (by kernel_rfl)) ?_
                have HV8 := Aside0.mk (RF.mapped HV7.out ht8)
                have HR8 := Aside0.mk (R_mapped HR7.out ht8)
                have HM8 := Aside0.mk (HM7.out.grown ht8.grown (by simp))
                have HB8w : Aside0 (Below wq.heap.size wq w8) := ⟨pw_below_grown HB7.out _ HB7.out.size ht8.grown (fun q hq => by cases hq; exact Nat.le_refl _)⟩
                have HI8 := Aside0.mk hm8
                have HTW : Aside0 (wq.heap.size + 2 ≤ w8.heap.size) := ⟨Nat.le_trans (Nat.le_trans HTW6.out hsz7) ht8.grown.size⟩
                clear hst8 hm8 ht8 hsz7 HTW6 HV7 HR7 HM7 HB7 HI7 b17 b27 b18 hH8
                have HBB : Aside0 (Below w.heap.size w w8) := ⟨HBQ.out.trans (HB8w.out.mono HBQ.out.size)⟩
                have HVX := Aside0.mk (RF.apart' HV8.out (Kd.R_typed HR8.out) (by decide))
                go_wp2_with (first | ((with_reducible refine gate_builtin (b := .append) (xs := #[.tmp 83, .tmp 88]) rfl ?_); at_builtin; refine Kd.R_append k39f (w0 := w) w.heap.size rfl (.tmp 83) (.tmp 88) 22 39 (.agg #[.string ⟨#[]⟩, .slice none 0 0]) 40 rfl Tryd.underlying22 info39 rfl (by decide) (by omega) u8 ms ⟨s, p.f2⟩ [.string s, .slice A2 p.f2.length c2] (fun _ => True) (fun k => True ∧ some k ≠ u8.ownBlock) rfl rfl (k39f_mkM _ _ _ ⟨s, p.f2⟩ HVX.out) (fun _ hk => hk) (fun _ _ => trivial) HR8.out HBB.out HBB.out.size (by have h1 := memS_len _ _ _ HIS.out; have h2 := HLN.out; omega) ?_; intro v9 w9 ho hb hg hat; have HRn := Aside0.mk ho; have HGn := Aside0.mk hg; have HAT := Aside0.mk hat; clear ho hb hat hg))
                have hnew : memS L (k + 1) = some (ms ++ [⟨s, p.f2⟩]) := by rw [HST.out]; unfold memStep; simp only []; rw [if_neg (by rw [HTS.out, HNM.out]; exact HNE.out), HTS.out, HOK.out, HSE.out, if_pos (by simp)]
                refine ⟨⟨k + 1, ms ++ [⟨s, p.f2⟩], by rw [HWI.out], ⟨hk⟩, ⟨RdSt.push hnew HB8w.out HI8.out HM8.out HR8.out HTW.out HOW.out HRn.out HGn.out HAT.out⟩⟩, meas hk HWI.out⟩
          have hkI : ¬ (k : Int) < (L.length : Int) := by omega
          have hkn : k = L.length := by have := HK.out; omega
          have HMS : Aside0 (memS L L.length = some ms) := ⟨by have h := HS.out.is; rwa [hkn] at h⟩
          have kn := fun (w : World) (a : Option Addr) (n c : Nat) => Lib.run_eql_slice_nil (P := Tryd.prog) w 24 5 a n c 0 0 Tryd.underlying24
          have HS2 : Aside0 (RdSt wq wo w.heap.size wq.heap.size (wq.heap.size + 1) L L.length ms u8) := ⟨by have h := HS.out; rwa [hkn] at h⟩
          have HBO : Aside0 (Below w.heap.size w wo) := ⟨HBQ.out.trans (HS2.out.below.mono HBQ.out.size)⟩
          obtain ⟨A8, c8, hu8, _, _⟩ := Kd.R_reads HS2.out.row
          subst hu8
          clear hkn HS HK
          have HX : Aside0 ((if (indexS F).2.2 && (idxL L (indexS F).1 (indexS F).2.1 (indexS F).1.length).2 then (ms, (idxL L (indexS F).1 (indexS F).2.1 (indexS F).1.length).1, 0) else ([], [], 5)) = r) := ⟨by rw [← HFL.out, finS_some HMS.out]⟩
          clear HFL HMS
          go_wp2_with fail
          refine (index_calls (some af) cf F HCF.out HFN.out HFB.out _ (Kd.C_below HFC.out (HS2.out.below))).mono ?_
          intro e w10 h10
          obtain ⟨vn, vp, h10, hrn, hrp, hb10⟩ := h10
          subst h10
          have hio := indexS_ok F HFB.out
          obtain ⟨⟨ns, ps, oki⟩, hix⟩ : ∃ q, indexS F = q := ⟨_, rfl⟩
          have hx := HX.out
          rw [hix] at hrn hrp hio hx ⊢
          simp only [] at hrn hrp hio hx ⊢
          obtain ⟨An, cn, rfl, _, hCn⟩ := Kd.R_reads hrn
          obtain ⟨Ap, cp, rfl, _, hCp⟩ := Kd.R_reads hrp
          have HCN := Aside0.mk hCn
          have HCP := Aside0.mk hCp
          have HXX := Aside0.mk hx
          have HIO := Aside0.mk hio
          have HS3 := Aside0.mk (HS2.out.to hb10)
          have HB10 : Aside0 (Below w.heap.size w w10) := ⟨HBO.out.trans (hb10.mono HBO.out.size)⟩
          clear hCn hCp hx hio hix hrn hrp hb10 HX HS2 HBO kn
          go_wp2_with fail
          go_loopw [16, 17, 102] (fun v16 v17 v102 wr => ∃ (j : Nat) (okv : Bool), v102 = .int .i64 j ∧ v16 = .bool okv ∧ Aside0 (j ≤ ns.length) ∧ Aside0 (okv = (oki && (idxL L ns ps j).2)) ∧ Aside0 (k43.R 43 wr w10.heap.size (fun _ => True) v17 (idxL L ns ps j).1) ∧ Aside0 (Below w10.heap.size w10 wr)) (fun _ _ v102 _ => ns.length - (intOf v102).toNat)
          case atStart => exact ⟨0, oki, rfl, rfl, ⟨Nat.zero_le _⟩, ⟨by show oki = (oki && true); cases oki <;> rfl⟩, ⟨Kd.R_nil _ _ _ _ _⟩, ⟨Below.refl _ _⟩⟩
          case round =>
            obtain ⟨wl, rfl⟩ : ∃ q, q = wr := ⟨_, rfl⟩
            obtain ⟨j, okv, rfl, rfl, HJ, HOKV, HXR, HBJ⟩ := hrel
            obtain ⟨⟨xs, bs⟩, hxs⟩ : ∃ q, idxL L ns ps j = q := ⟨_, rfl⟩
            have hxl := idxL_len L ns ps j
            have hok := HOKV.out
            have hxr := HXR.out
            rw [hxs] at hok hxr hxl
            have HOK2 := Aside0.mk hok
            have HXR2 := Aside0.mk hxr
            have HXS := Aside0.mk hxs
            have HXL := Aside0.mk hxl
            clear hok hxr hxs hxl HOKV HXR
            have hns := HIO.out.2.1
            have hfn := HFN.out
            by_cases hj : j < ns.length
            · have hjI : (j : Int) < (ns.length : Int) := by omega
              have hjl : j < ps.length := by rw [← HIO.out.1]; exact hj
              have hjP : (j : Int) < (ps.length : Int) := by omega
              have HWJ : Aside0 (wrap64 ((j : Int) + 1) = ((j + 1 : Nat) : Int)) := ⟨w64n (j := 1) rfl (by omega)⟩
              obtain ⟨adn, hAn, en⟩ := at_S (Kd.C_below HCN.out HBJ.out) j hj
              cases hAn
              obtain ⟨adp, hAp, ep⟩ := at_N (Kd.C_below HCP.out HBJ.out) j hjl
              cases hAp
              have hzb := HIO.out.2.2 (ps.getD j 0) (by rw [List.getD_eq_getElem?_getD, List.getElem?_eq_getElem hjl]; exact List.getElem_mem hjl)
              obtain ⟨z, hz⟩ : ∃ z, ps.getD j 0 = z := ⟨_, rfl⟩
              obtain ⟨nz, hnz⟩ : ∃ z, ns.getD j ⟨#[]⟩ = z := ⟨_, rfl⟩
              rw [hz] at ep hzb
              rw [hnz] at en
              have hl := (HS3.out.map.grown (grown_of_below HBJ.out none) (by simp)).look (z := z) (by omega) (by omega)
              have hsucc : idxL L ns ps (j + 1) = (xs ++ [⟨nz, (((atN L z L.length).getD 0 : Nat) : Int)⟩], bs && (atN L z L.length).isSome) := by simp only [idxL]; rw [HXS.out, hz, hnz]
              obtain ⟨n0, hn0⟩ : ∃ x, (atN L z L.length).getD 0 = x := ⟨_, rfl⟩
              obtain ⟨iz, hiz⟩ : ∃ x, (atN L z L.length).isSome = x := ⟨_, rfl⟩
              rw [hn0, hiz] at hl hsucc
              have HSU := Aside0.mk hsucc
              have HBW : Aside0 (Below w.heap.size w wl) := ⟨HB10.out.trans (HBJ.out.mono HB10.out.size)⟩
              clear hz hnz hn0 hiz hzb hsucc hns hfn
              cases okv
              · go_wp2_with (((with_reducible refine gate_builtin (b := .append) (xs := #[.tmp 118, .tmp 125]) rfl ?_); at_builtin; apply id_stop))
                unfold Stop
                refine Kd.R_append k43 (w0 := w10) w10.heap.size rfl (.tmp 118) (.tmp 125) 23 43 (.agg #[.string ⟨#[]⟩, .int .i64 0]) 24 rfl Tryd.underlying23 info43 rfl (by decide) (by omega) u17 xs ⟨nz, (n0 : Int)⟩ [.string nz, .int .i64 (n0 : Int)] (fun _ => True) (fun _ => False) rfl rfl (k43_mkM _ _ _ ⟨nz, (n0 : Int)⟩) (fun _ hk => hk.elim) (fun _ _ => trivial) HXR2.out HBJ.out HBJ.out.size (by have h1 := HXL.out; have h2 := HIO.out.2.1; have h3 := HFN.out; omega) ?_
                intro v9 w9 ho hb hg hat
                have HRn := Aside0.mk ho
                have HBn := Aside0.mk hb
                clear ho hb hat hg
                go_wp2_with fail
                refine ⟨⟨j + 1, false, by rw [HWJ.out], rfl, ⟨hj⟩, ⟨by rw [HSU.out]; have h := HOK2.out; revert h; cases oki <;> cases bs <;> cases iz <;> simp⟩, ⟨by rw [HSU.out]; exact HRn.out⟩, HBn⟩, meas hj HWJ.out⟩
              go_wp2_with (((with_reducible refine gate_builtin (b := .append) (xs := #[.tmp 118, .tmp 125]) rfl ?_); at_builtin; apply id_stop))
              unfold Stop
              refine Kd.R_append k43 (w0 := w10) w10.heap.size rfl (.tmp 118) (.tmp 125) 23 43 (.agg #[.string ⟨#[]⟩, .int .i64 0]) 24 rfl Tryd.underlying23 info43 rfl (by decide) (by omega) u17 xs ⟨nz, (n0 : Int)⟩ [.string nz, .int .i64 (n0 : Int)] (fun _ => True) (fun _ => False) rfl rfl (k43_mkM _ _ _ ⟨nz, (n0 : Int)⟩) (fun _ hk => hk.elim) (fun _ _ => trivial) HXR2.out HBJ.out HBJ.out.size (by have h1 := HXL.out; have h2 := HIO.out.2.1; have h3 := HFN.out; omega) ?_
              intro v9 w9 ho hb hg hat
              have HRn := Aside0.mk ho
              have HBn := Aside0.mk hb
              clear ho hb hat hg
              go_wp2_with fail
              refine ⟨⟨j + 1, iz, by rw [HWJ.out], rfl, ⟨hj⟩, ⟨by rw [HSU.out]; have h := HOK2.out; revert h; cases oki <;> cases bs <;> cases iz <;> simp⟩, ⟨by rw [HSU.out]; exact HRn.out⟩, HBn⟩, meas hj HWJ.out⟩
            have hjI : ¬ (j : Int) < (ns.length : Int) := by omega
            have hjn : j = ns.length := by have := HJ.out; omega
            have hx := HXX.out
            rw [← hjn, HXS.out] at hx
            simp only [] at hx
            rw [← HOK2.out] at hx
            have HXF := Aside0.mk hx
            clear hx hjn
            have HBW : Aside0 (Below w.heap.size w wl) := ⟨HB10.out.trans (HBJ.out.mono HB10.out.size)⟩
            obtain ⟨A17, c17, hu17, _, _⟩ := Kd.R_reads HXR2.out
            subst hu17
            cases okv
            · obtain rfl : r = ([], [], 5) := by rw [← HXF.out]; rfl
              go_wp2_with fail
              refine bodyPost_ret (v := .tuple #[.slice none 0 0, .slice none 0 0, .int .i64 5]) (by simp [results, Tryd.results13, go_sem]) rfl ?_
              exact ⟨_, _, rfl, Kd.R_nil _ _ _ _ _, Kd.R_nil _ _ _ _ _, HBW.out⟩
            obtain rfl : r = (ms, xs, 0) := by rw [← HXF.out]; rfl
            go_wp2_with fail
            refine bodyPost_ret (v := .tuple #[.slice A8 ms.length c8, .slice A17 xs.length c17, .int .i64 0]) (by simp [results, Tryd.results13, go_sem]) rfl ?_
            exact ⟨_, _, rfl, Kd.R_below HS3.out.row HBJ.out, Kd.R_lower HXR2.out HB10.out.size, HBW.out⟩
      have hs1 := toList_ne2 hsl
      have hs2 : (nm.toList == [47]) = false := beq_eq_false_iff_ne.2 (fun e => hsl (by rw [Lib.toList_data] at e; rw [← Lib.mk_data nm, e]))
      have HFL : Aside0 (finS none ls = r) := ⟨by rw [← HRr.out]; unfold readS; rw [if_neg (by have := HL.out; omega), HPS.out]; show _ = (match ls with | [] => finS none [] | p :: r => if p.f0 = slashS then (if p.f2 = [] then ([], [], 5) else finS (some p.f2) r) else finS none (p :: r)); rw [HLS.out]; exact (if_neg (by rw [HNM.out]; exact hsl)).symm⟩
      have HPL := HPR
      go_upto_region 11 with fail
      clear e0 e2 hs1 hs2
      have HLO := Aside0.mk HOKs.out.1
      have HLN : Aside0 (ls.length ≤ 65536) := ⟨Nat.le_trans HOKs.out.2 HL.out⟩
      clear hls hlsI HPR HPS HRr
      go_wp2_with fail
      go_loopw [8, 55] (fun v8 v55 wr => ∃ (k : Nat) (ms : List S39), v55 = .int .i64 k ∧ Aside0 (k ≤ ls.length) ∧ Aside0 (RdSt w3 wr w.heap.size w3.heap.size (w3.heap.size + 1) ls k ms v8)) (fun _ v55 _ => ls.length - (intOf v55).toNat)
      case atStart => exact ⟨0, [], rfl, ⟨Nat.zero_le _⟩, ⟨RdSt.start ls⟩⟩
      case round =>
        obtain ⟨wo, rfl⟩ : ∃ q, q = wr := ⟨_, rfl⟩
        obtain ⟨k, ms, rfl, HK, HS⟩ := hrel
        have hln := HLN.out
        by_cases hk : k < ls.length
        · have hkI : (k : Int) < (ls.length : Int) := by omega
          have HWI : Aside0 (wrap64 ((k : Int) + 1) = ((k + 1 : Nat) : Int)) := ⟨w64n (j := 1) rfl (by omega)⟩
          obtain ⟨ad2, v2, hA2, e0, e1, e2, hv2⟩ := (HPL.out.below HS.out.below).at_ k hk
          cases hA2
          have hpo := HLO.out _ (getD_mem hk)
          have hstep := memS_succ ls k hk
          obtain ⟨p, hp⟩ : ∃ p, ls.getD k z64 = p := ⟨_, rfl⟩
          rw [hp] at e0 e1 hv2 hpo hstep
          have HPO := Aside0.mk hpo
          have HPP := Aside0.mk hp
          obtain ⟨A2, c2, rfl, hc2, _⟩ := Kd.R_reads hv2.1
          have HV2 := Aside0.mk hv2
          have hz1 : p.f0.size ≤ 9223372036854775807 := Nat.le_trans hpo.name (by decide)
          have HZ1 := Aside0.mk hz1
          have hst2 : memS ls (k + 1) = memStep (some ms) p := by rw [hstep, HS.out.is]
          have HST := Aside0.mk hst2
          clear hp hpo hv2 hz1 hstep hst2 hc2 hln
          go_upto_region 16 with fail
          clear e0 e1 e2
          generalize hwb : wo.alloc (.cells #[.string p.f0, .int .i64 p.f1, .slice A2 p.f2.length c2] 53 (0, 0)) = wb
          have HSB : Aside0 (RdSt w3 wb w.heap.size w3.heap.size (w3.heap.size + 1) ls k ms u8) := ⟨by rw [← hwb]; exact HS.out.to (below_alloc (Below.refl _ _) _)⟩
          have b0 : wb.cell? ⟨wo.heap.size, 0, none⟩ = some (.string p.f0) := by rw [← hwb]; exact blk_cell (heap_alloc_new _ _) 0
          have b1 : wb.cell? ⟨wo.heap.size, 1, none⟩ = some (.int .i64 p.f1) := by rw [← hwb]; exact blk_cell (heap_alloc_new _ _) 1
          have b2 : wb.cell? ⟨wo.heap.size, 2, none⟩ = some (.slice A2 p.f2.length c2) := by rw [← hwb]; exact blk_cell (heap_alloc_new _ _) 2
          have HVB : Aside0 (RF wb w.heap.size (fun _ => True) (.slice A2 p.f2.length c2) p.f2) := ⟨by rw [← hwb]; exact RF.alloc HV2.out _⟩
          have HGT : Aside0 (w3.heap.size + 2 ≤ wo.heap.size) := ⟨HS.out.two⟩
          obtain ⟨bx, hbx⟩ : ∃ x, wo.heap.size = x := ⟨_, rfl⟩
          rw [hbx] at b0 b1 b2 HGT ⊢
          clear hwb hbx HS HV2
          have TC := Aside0.mk (fun w => trim_calls p.f0 HZ1.out w)
          obtain ⟨nm, hnm⟩ : ∃ x, p.f0 = x := ⟨_, rfl⟩
          obtain ⟨s, hs⟩ : ∃ x, trimSfx p.f0 = x := ⟨_, rfl⟩
          simp only [hs] at TC
          rw [hnm] at b0 HZ1
          simp only [hnm] at TC ⊢
          have HSZ : Aside0 (s.size ≤ 9223372036854775807) := ⟨by rw [← hs, hnm]; unfold trimSfx; split; (rw [ByteArray.size_extract]; have := HZ1.out; omega); exact HZ1.out⟩
          have HTS := Aside0.mk hs
          have HNM := Aside0.mk hnm
          clear hs hnm
          go_wp2_with fail
          refine (TC.out _).mono ?_
          clear TC
          intro e w4 h4
          obtain ⟨h4, hb4⟩ := h4
          subst h4
          have HS4 := Aside0.mk (HSB.out.to hb4)
          have HV4 := Aside0.mk (RF.below HVB.out hb4)
          replace b0 := pw_cell_below hb4 b0
          replace b1 := pw_cell_below hb4 b1
          replace b2 := pw_cell_below hb4 b2
          clear HSB HVB hb4
          simp only []
          by_cases hsn : s = nm
          · have HSE := Aside0.mk hsn
            subst hsn
            obtain rfl : r = ([], [], 5) := by rw [← HFL.out]; exact finS_bad _ _ (k + 1) (by rw [HST.out]; unfold memStep; simp only []; rw [if_pos (by rw [HTS.out, HNM.out])]) hk
            go_wp2_with fail
            refine bodyPost_ret (v := .tuple #[.slice none 0 0, .slice none 0 0, .int .i64 5]) (by simp [results, Tryd.results13, go_sem]) rfl ?_
            exact ⟨_, _, rfl, Kd.R_nil _ _ _ _ _, Kd.R_nil _ _ _ _ _, HB3.out.trans (HS4.out.below.mono HB3.out.size)⟩
          have hq1 := toList_ne2 hsn
          have hq2 : (s.toList == nm.toList) = false := beq_eq_false_iff_ne.2 hq1
          have HNE := Aside0.mk hsn
          obtain ⟨ok, hok⟩ : ∃ b, nameOk s = b := ⟨_, rfl⟩
          have HOK := Aside0.mk hok
          have NC := Aside0.mk (fun w => name_calls s HSZ.out w)
          simp only [hok] at NC
          clear hok hsn
          go_wp2_with fail
          refine (NC.out _).mono ?_
          clear NC
          intro e w5 h5
          obtain ⟨h5, hb5⟩ := h5
          subst h5
          have HS5 := Aside0.mk (HS4.out.to hb5)
          have HV5 := Aside0.mk (RF.below HV4.out hb5)
          replace b0 := pw_cell_below hb5 b0
          replace b1 := pw_cell_below hb5 b1
          replace b2 := pw_cell_below hb5 b2
          clear HS4 HV4 hb5
          have hl := HS5.out.seen.look (s := s) HSZ.out
          obtain ⟨se, hse⟩ : ∃ b, seenB (ms.map S39.f0) s = b := ⟨_, rfl⟩
          rw [hse] at hl
          have HSE := Aside0.mk hse
          clear hse
          simp only []
          cases ok with
          | false =>
            obtain rfl : r = ([], [], 5) := by rw [← HFL.out]; exact finS_bad _ _ (k + 1) (by rw [HST.out]; unfold memStep; simp only []; rw [if_neg (by rw [HTS.out, HNM.out]; exact HNE.out), HTS.out, HOK.out, if_neg (by simp)]) hk
            go_wp2_with fail
            refine bodyPost_ret (v := .tuple #[.slice none 0 0, .slice none 0 0, .int .i64 5]) (by simp [results, Tryd.results13, go_sem]) rfl ?_
            exact ⟨_, _, rfl, Kd.R_nil _ _ _ _ _, Kd.R_nil _ _ _ _ _, HB3.out.trans (HS5.out.below.mono HB3.out.size)⟩
          | true =>
            cases se with
            | true =>
              obtain rfl : r = ([], [], 5) := by rw [← HFL.out]; exact finS_bad _ _ (k + 1) (by rw [HST.out]; unfold memStep; simp only []; rw [if_neg (by rw [HTS.out, HNM.out]; exact HNE.out), HTS.out, HOK.out, HSE.out, if_neg (by simp)]) hk
              go_wp2_with fail
              refine bodyPost_ret (v := .tuple #[.slice none 0 0, .slice none 0 0, .int .i64 5]) (by simp [results, Tryd.results13, go_sem]) rfl ?_
              exact ⟨_, _, rfl, Kd.R_nil _ _ _ _ _, Kd.R_nil _ _ _ _ _, HB3.out.trans (HS5.out.below.mono HB3.out.size)⟩
            | false =>
              go_upto_region 19 with fail
              clear hl hq1 hq2 b0
              refine start_ (n := 8) (S := fun w' => w'.cell? ⟨bx, 1, none⟩ = some (.int .i64 p.f1)) (ds := []) #[false, false, false, false, false, false, false, false] (by kernel_rfl) rfl rfl b1 (fun hHeld => ?_)
              refine with_tabW tab13_19 bits13_19 (fun HT_ HW_ => ?_)
              have HS6 : Aside0 (RdSt w3 w5.drew w.heap.size w3.heap.size (w3.heap.size + 1) ls k ms u8) := ⟨HS5.out.to (below_drew (Below.refl _ _))⟩
              have HV6 := Aside0.mk (RF.drew HV5.out)
              have b26 : w5.drew.cell? ⟨bx, 2, none⟩ = some (.slice A2 p.f2.length c2) := b2
              generalize w5.drew = w6 at HS6 HV6 b26 hHeld ⊢
              clear HS5 HV5 b1 b2
              refine pure_ (i := 0) (N := some 77) (v := ?_) (a' := ?_) #[true, false, false, false, false, false, false, false] rfl rfl (any_of HT_.out (by kernel_rfl)) (fun _ _ _ h => h) (Or.inl ⟨by rfl, ?_⟩) ?_ ?_
              rotate_left
              · intro w'
                go_simp
                with_reducible rfl
              rotate_left
              · skip
                simp only [Act.put, List.setIfInBounds_toArray, List.set_cons_zero, List.set_cons_succ, i64_w, i32_w]
                rfl
              refine pure_ (i := 1) (N := some 78) (v := ?_) (a' := ?_) #[true, true, false, false, false, false, false, false] rfl rfl (any_of HT_.out (by kernel_rfl)) (fun _ _ _ h => h) (Or.inl ⟨by rfl, ?_⟩) ?_ ?_
              rotate_left
              · intro w'
                go_simp
                with_reducible rfl
              rotate_left
              · skip
                simp only [Act.put, List.setIfInBounds_toArray, List.set_cons_zero, List.set_cons_succ, i64_w, i32_w]
                rfl
              refine pure_ (i := 2) (N := some 79) (v := ?_) (a' := ?_) #[true, true, true, false, false, false, false, false] rfl rfl (any_of HT_.out (by kernel_rfl)) (fun _ _ _ h => h) (Or.inl ⟨by rfl, ?_⟩) ?_ ?_
              rotate_left
              · intro w'
                go_simp
                with_reducible rfl
              rotate_left
              · skip
                simp only [Act.put, List.setIfInBounds_toArray, List.set_cons_zero, List.set_cons_succ, i64_w, i32_w]
                rfl
              refine pure_ (i := 3) (N := some 80) (v := ?_) (a' := ?_) #[true, true, true, true, false, false, false, false] rfl rfl (any_of HT_.out (by kernel_rfl)) (fun _ _ _ h => h) (Or.inl ⟨by rfl, ?_⟩) ?_ ?_
              rotate_left
              · intro w'
                go_simp
                with_reducible rfl
              rotate_left
              · skip
                simp only [Act.put, List.setIfInBounds_toArray, List.set_cons_zero, List.set_cons_succ, i64_w, i32_w]
                rfl
              refine take_ (i := 4) (N := some 81) (v := ?_) (a' := ?_) #[true, true, true, true, true, false, false, false] rfl rfl (take_ofW HT_.out HW_.out (by kernel_rfl)) (fun _ _ _ h => h) (Or.inl ⟨by rfl, ?_⟩) hHeld ?_ ?_
              rotate_left
              · intro w' s0
                go_simp
                with_reducible rfl
              rotate_left
              · skip
                simp only [Act.put, List.setIfInBounds_toArray, List.set_cons_zero, List.set_cons_succ, i64_w, i32_w]
                rfl
              refine pure_ (i := 5) (N := some 82) (v := ?_) (a' := ?_) #[true, true, true, true, true, true, false, false] rfl rfl (any_of HT_.out (by kernel_rfl)) (fun _ _ _ h => h) (Or.inl ⟨by rfl, ?_⟩) ?_ ?_
              rotate_left
              · intro w'
                go_simp
                with_reducible rfl
              rotate_left
              · skip
                simp only [Act.put, List.setIfInBounds_toArray, List.set_cons_zero, List.set_cons_succ, i64_w, i32_w]
                rfl
              obtain ⟨w7, hst7, hm7, ht7⟩ := HS6.out.seen.store s HSZ.out (by have h1 := memS_len _ _ _ HS6.out.is; have h2 := HLN.out; rw [List.length_map]; unfold maxLen; omega)
              have b17 := cell_turned ht7 hHeld (by have := HGT.out; omega)
              have b27 := cell_turned ht7 b26 (by have := HGT.out; omega)
              refine one_ (i := 6) (N := none) #[true, true, true, true, true, true, true, false] rfl rfl (one_of HT_.out (by kernel_rfl)) (by decide) (fun K hK => ?_)
              refine skip_ (w1 := ?_) (by rfl) rfl ?_ ?_
              rotate_left
              · go_simp
                rfl
              refine hK.out _ _ b17 (fun hH7 => ?_)
              clear hK K
              clear hHeld
              have HV7 := Aside0.mk (RF.mapped HV6.out ht7)
              have HR7 := Aside0.mk (R_mapped HS6.out.row ht7)
              have HM7 := Aside0.mk (hm7 HSE.out)
              have HB7 : Aside0 (Below w3.heap.size w3 w7) := ⟨pw_below_grown HS6.out.below _ HS6.out.below.size ht7.grown (fun q hq => by cases hq; omega)⟩
              have HI7 := Aside0.mk (HS6.out.map.grown ht7.grown (by simp))
              have HIS := Aside0.mk HS6.out.is
              have HOW := Aside0.mk HS6.out.own
              have HTW6 := Aside0.mk HS6.out.two
              have hsz7 := ht7.grown.size
              clear hst7 hm7 ht7 HS6 HV6 b26 hH7
              obtain ⟨w8, hst8, hm8, ht8⟩ := HI7.out.store (by have := HLN.out; unfold maxLen; omega) p.f1 (by rw [HPP.out]) (by have := HPO.out.at0; omega) (by have := HPO.out.at1; have := HL.out; omega)
              have b18 := cell_turned ht8 b17 (by have := HGT.out; omega)
              have b28 := cell_turned ht8 b27 (by have := HGT.out; omega)
              refine one_ (i := 7) (N := none) #[true, true, true, true, true, true, true, true] rfl rfl (one_of HT_.out (by kernel_rfl)) (by decide) (fun K hK => ?_)
              refine skip_ (w1 := ?_) (by rfl) rfl ?_ ?_
              rotate_left
              · go_simp
                rfl
              refine hK.out _ _ b18 (fun hH8 => ?_)
              clear hK K
              refine done_ (done_of HT_.out (by kernel_rfl)) ?_
              have HV8 := Aside0.mk (RF.mapped HV7.out ht8)
              have HR8 := Aside0.mk (R_mapped HR7.out ht8)
              have HM8 := Aside0.mk (HM7.out.grown ht8.grown (by simp))
              have HB8w : Aside0 (Below w3.heap.size w3 w8) := ⟨pw_below_grown HB7.out _ HB7.out.size ht8.grown (fun q hq => by cases hq; exact Nat.le_refl _)⟩
              have HI8 := Aside0.mk hm8
              have HTW : Aside0 (w3.heap.size + 2 ≤ w8.heap.size) := ⟨Nat.le_trans (Nat.le_trans HTW6.out hsz7) ht8.grown.size⟩
              clear hst8 hm8 ht8 hsz7 HTW6 HV7 HR7 HM7 HB7 HI7 b17 b27 b18 hH8
              have HBB : Aside0 (Below w.heap.size w w8) := ⟨HB3.out.trans (HB8w.out.mono HB3.out.size)⟩
              have HVX := Aside0.mk (RF.apart' HV8.out (Kd.R_typed HR8.out) (by decide))
              go_wp2_with (first | ((with_reducible refine gate_builtin (b := .append) (xs := #[.tmp 83, .tmp 88]) rfl ?_); at_builtin; refine Kd.R_append k39f (w0 := w) w.heap.size rfl (.tmp 83) (.tmp 88) 22 39 (.agg #[.string ⟨#[]⟩, .slice none 0 0]) 40 rfl Tryd.underlying22 info39 rfl (by decide) (by omega) u8 ms ⟨s, p.f2⟩ [.string s, .slice A2 p.f2.length c2] (fun _ => True) (fun k => True ∧ some k ≠ u8.ownBlock) rfl rfl (k39f_mkM _ _ _ ⟨s, p.f2⟩ HVX.out) (fun _ hk => hk) (fun _ _ => trivial) HR8.out HBB.out HBB.out.size (by have h1 := memS_len _ _ _ HIS.out; have h2 := HLN.out; omega) ?_; intro v9 w9 ho hb hg hat; have HRn := Aside0.mk ho; have HGn := Aside0.mk hg; have HAT := Aside0.mk hat; clear ho hb hat hg))
              have hnew : memS ls (k + 1) = some (ms ++ [⟨s, p.f2⟩]) := by rw [HST.out]; unfold memStep; simp only []; rw [if_neg (by rw [HTS.out, HNM.out]; exact HNE.out), HTS.out, HOK.out, HSE.out, if_pos (by simp)]
              refine ⟨⟨k + 1, ms ++ [⟨s, p.f2⟩], by rw [HWI.out], ⟨hk⟩, ⟨RdSt.push hnew HB8w.out HI8.out HM8.out HR8.out HTW.out HOW.out HRn.out HGn.out HAT.out⟩⟩, meas hk HWI.out⟩
        have hkI : ¬ (k : Int) < (ls.length : Int) := by omega
        have hkn : k = ls.length := by have := HK.out; omega
        have HMS : Aside0 (memS ls ls.length = some ms) := ⟨by have h := HS.out.is; rwa [hkn] at h⟩
        have kn := fun (w : World) (a : Option Addr) (n c : Nat) => Lib.run_eql_slice_nil (P := Tryd.prog) w 24 5 a n c 0 0 Tryd.underlying24
        have HS2 : Aside0 (RdSt w3 wo w.heap.size w3.heap.size (w3.heap.size + 1) ls ls.length ms u8) := ⟨by have h := HS.out; rwa [hkn] at h⟩
        have HBO : Aside0 (Below w.heap.size w wo) := ⟨HB3.out.trans (HS2.out.below.mono HB3.out.size)⟩
        obtain ⟨A8, c8, hu8, _, _⟩ := Kd.R_reads HS2.out.row
        subst hu8
        clear hkn HS HK
        obtain rfl : r = (ms, [], 0) := by rw [← HFL.out, finS_some HMS.out]
        go_wp2_with fail
        refine bodyPost_ret (v := .tuple #[.slice A8 ms.length c8, .slice none 0 0, .int .i64 0]) (by simp [results, Tryd.results13, go_sem]) rfl ?_
        exact ⟨_, _, rfl, HS2.out.row, Kd.R_nil _ _ _ _ _, HBO.out⟩
    have hlsI : ¬ (0 : Int) < (ls.length : Int) := by omega
    have HFL : Aside0 (finS none ls = r) := ⟨by obtain rfl : ls = [] := List.eq_nil_of_length_eq_zero (by omega); rw [← HRr.out]; unfold readS; rw [if_neg (by have := HL.out; omega), HPS.out]; rfl⟩
    have HPL := HPR
    go_upto_region 11 with fail
    have HLO := Aside0.mk HOKs.out.1
    have HLN : Aside0 (ls.length ≤ 65536) := ⟨Nat.le_trans HOKs.out.2 HL.out⟩
    clear hls hlsI HPR HPS HRr
    go_wp2_with fail
    go_loopw [8, 55] (fun v8 v55 wr => ∃ (k : Nat) (ms : List S39), v55 = .int .i64 k ∧ Aside0 (k ≤ ls.length) ∧ Aside0 (RdSt w3 wr w.heap.size w3.heap.size (w3.heap.size + 1) ls k ms v8)) (fun _ v55 _ => ls.length - (intOf v55).toNat)
    case atStart => exact ⟨0, [], rfl, ⟨Nat.zero_le _⟩, ⟨RdSt.start ls⟩⟩
    case round =>
      obtain ⟨wo, rfl⟩ : ∃ q, q = wr := ⟨_, rfl⟩
      obtain ⟨k, ms, rfl, HK, HS⟩ := hrel
      have hln := HLN.out
      by_cases hk : k < ls.length
      · have hkI : (k : Int) < (ls.length : Int) := by omega
        have HWI : Aside0 (wrap64 ((k : Int) + 1) = ((k + 1 : Nat) : Int)) := ⟨w64n (j := 1) rfl (by omega)⟩
        obtain ⟨ad2, v2, hA2, e0, e1, e2, hv2⟩ := (HPL.out.below HS.out.below).at_ k hk
        cases hA2
        have hpo := HLO.out _ (getD_mem hk)
        have hstep := memS_succ ls k hk
        obtain ⟨p, hp⟩ : ∃ p, ls.getD k z64 = p := ⟨_, rfl⟩
        rw [hp] at e0 e1 hv2 hpo hstep
        have HPO := Aside0.mk hpo
        have HPP := Aside0.mk hp
        obtain ⟨A2, c2, rfl, hc2, _⟩ := Kd.R_reads hv2.1
        have HV2 := Aside0.mk hv2
        have hz1 : p.f0.size ≤ 9223372036854775807 := Nat.le_trans hpo.name (by decide)
        have HZ1 := Aside0.mk hz1
        have hst2 : memS ls (k + 1) = memStep (some ms) p := by rw [hstep, HS.out.is]
        have HST := Aside0.mk hst2
        clear hp hpo hv2 hz1 hstep hst2 hc2 hln
        go_upto_region 16 with fail
        clear e0 e1 e2
        generalize hwb : wo.alloc (.cells #[.string p.f0, .int .i64 p.f1, .slice A2 p.f2.length c2] 53 (0, 0)) = wb
        have HSB : Aside0 (RdSt w3 wb w.heap.size w3.heap.size (w3.heap.size + 1) ls k ms u8) := ⟨by rw [← hwb]; exact HS.out.to (below_alloc (Below.refl _ _) _)⟩
        have b0 : wb.cell? ⟨wo.heap.size, 0, none⟩ = some (.string p.f0) := by rw [← hwb]; exact blk_cell (heap_alloc_new _ _) 0
        have b1 : wb.cell? ⟨wo.heap.size, 1, none⟩ = some (.int .i64 p.f1) := by rw [← hwb]; exact blk_cell (heap_alloc_new _ _) 1
        have b2 : wb.cell? ⟨wo.heap.size, 2, none⟩ = some (.slice A2 p.f2.length c2) := by rw [← hwb]; exact blk_cell (heap_alloc_new _ _) 2
        have HVB : Aside0 (RF wb w.heap.size (fun _ => True) (.slice A2 p.f2.length c2) p.f2) := ⟨by rw [← hwb]; exact RF.alloc HV2.out _⟩
        have HGT : Aside0 (w3.heap.size + 2 ≤ wo.heap.size) := ⟨HS.out.two⟩
        obtain ⟨bx, hbx⟩ : ∃ x, wo.heap.size = x := ⟨_, rfl⟩
        rw [hbx] at b0 b1 b2 HGT ⊢
        clear hwb hbx HS HV2
        have TC := Aside0.mk (fun w => trim_calls p.f0 HZ1.out w)
        obtain ⟨nm, hnm⟩ : ∃ x, p.f0 = x := ⟨_, rfl⟩
        obtain ⟨s, hs⟩ : ∃ x, trimSfx p.f0 = x := ⟨_, rfl⟩
        simp only [hs] at TC
        rw [hnm] at b0 HZ1
        simp only [hnm] at TC ⊢
        have HSZ : Aside0 (s.size ≤ 9223372036854775807) := ⟨by rw [← hs, hnm]; unfold trimSfx; split; (rw [ByteArray.size_extract]; have := HZ1.out; omega); exact HZ1.out⟩
        have HTS := Aside0.mk hs
        have HNM := Aside0.mk hnm
        clear hs hnm
        go_wp2_with fail
        refine (TC.out _).mono ?_
        clear TC
        intro e w4 h4
        obtain ⟨h4, hb4⟩ := h4
        subst h4
        have HS4 := Aside0.mk (HSB.out.to hb4)
        have HV4 := Aside0.mk (RF.below HVB.out hb4)
        replace b0 := pw_cell_below hb4 b0
        replace b1 := pw_cell_below hb4 b1
        replace b2 := pw_cell_below hb4 b2
        clear HSB HVB hb4
        simp only []
        by_cases hsn : s = nm
        · have HSE := Aside0.mk hsn
          subst hsn
          obtain rfl : r = ([], [], 5) := by rw [← HFL.out]; exact finS_bad _ _ (k + 1) (by rw [HST.out]; unfold memStep; simp only []; rw [if_pos (by rw [HTS.out, HNM.out])]) hk
          go_wp2_with fail
          refine bodyPost_ret (v := .tuple #[.slice none 0 0, .slice none 0 0, .int .i64 5]) (by simp [results, Tryd.results13, go_sem]) rfl ?_
          exact ⟨_, _, rfl, Kd.R_nil _ _ _ _ _, Kd.R_nil _ _ _ _ _, HB3.out.trans (HS4.out.below.mono HB3.out.size)⟩
        have hq1 := toList_ne2 hsn
        have hq2 : (s.toList == nm.toList) = false := beq_eq_false_iff_ne.2 hq1
        have HNE := Aside0.mk hsn
        obtain ⟨ok, hok⟩ : ∃ b, nameOk s = b := ⟨_, rfl⟩
        have HOK := Aside0.mk hok
        have NC := Aside0.mk (fun w => name_calls s HSZ.out w)
        simp only [hok] at NC
        clear hok hsn
        go_wp2_with fail
        refine (NC.out _).mono ?_
        clear NC
        intro e w5 h5
        obtain ⟨h5, hb5⟩ := h5
        subst h5
        have HS5 := Aside0.mk (HS4.out.to hb5)
        have HV5 := Aside0.mk (RF.below HV4.out hb5)
        replace b0 := pw_cell_below hb5 b0
        replace b1 := pw_cell_below hb5 b1
        replace b2 := pw_cell_below hb5 b2
        clear HS4 HV4 hb5
        have hl := HS5.out.seen.look (s := s) HSZ.out
        obtain ⟨se, hse⟩ : ∃ b, seenB (ms.map S39.f0) s = b := ⟨_, rfl⟩
        rw [hse] at hl
        have HSE := Aside0.mk hse
        clear hse
        simp only []
        cases ok with
        | false =>
          obtain rfl : r = ([], [], 5) := by rw [← HFL.out]; exact finS_bad _ _ (k + 1) (by rw [HST.out]; unfold memStep; simp only []; rw [if_neg (by rw [HTS.out, HNM.out]; exact HNE.out), HTS.out, HOK.out, if_neg (by simp)]) hk
          go_wp2_with fail
          refine bodyPost_ret (v := .tuple #[.slice none 0 0, .slice none 0 0, .int .i64 5]) (by simp [results, Tryd.results13, go_sem]) rfl ?_
          exact ⟨_, _, rfl, Kd.R_nil _ _ _ _ _, Kd.R_nil _ _ _ _ _, HB3.out.trans (HS5.out.below.mono HB3.out.size)⟩
        | true =>
          cases se with
          | true =>
            obtain rfl : r = ([], [], 5) := by rw [← HFL.out]; exact finS_bad _ _ (k + 1) (by rw [HST.out]; unfold memStep; simp only []; rw [if_neg (by rw [HTS.out, HNM.out]; exact HNE.out), HTS.out, HOK.out, HSE.out, if_neg (by simp)]) hk
            go_wp2_with fail
            refine bodyPost_ret (v := .tuple #[.slice none 0 0, .slice none 0 0, .int .i64 5]) (by simp [results, Tryd.results13, go_sem]) rfl ?_
            exact ⟨_, _, rfl, Kd.R_nil _ _ _ _ _, Kd.R_nil _ _ _ _ _, HB3.out.trans (HS5.out.below.mono HB3.out.size)⟩
          | false =>
            go_upto_region 19 with fail
            clear hl hq1 hq2 b0
            refine start_ (n := 8) (S := fun w' => w'.cell? ⟨bx, 1, none⟩ = some (.int .i64 p.f1)) (ds := []) #[false, false, false, false, false, false, false, false] (by kernel_rfl) rfl rfl b1 (fun hHeld => ?_)
            refine with_tabW tab13_19 bits13_19 (fun HT_ HW_ => ?_)
            have HS6 : Aside0 (RdSt w3 w5.drew w.heap.size w3.heap.size (w3.heap.size + 1) ls k ms u8) := ⟨HS5.out.to (below_drew (Below.refl _ _))⟩
            have HV6 := Aside0.mk (RF.drew HV5.out)
            have b26 : w5.drew.cell? ⟨bx, 2, none⟩ = some (.slice A2 p.f2.length c2) := b2
            generalize w5.drew = w6 at HS6 HV6 b26 hHeld ⊢
            clear HS5 HV5 b1 b2
            refine pure_ (i := 0) (N := some 77) (v := ?_) (a' := ?_) #[true, false, false, false, false, false, false, false] rfl rfl (any_of HT_.out (by kernel_rfl)) (fun _ _ _ h => h) (Or.inl ⟨by rfl, ?_⟩) ?_ ?_
            rotate_left
            · intro w'
              go_simp
              with_reducible rfl
            rotate_left
            · skip
              simp only [Act.put, List.setIfInBounds_toArray, List.set_cons_zero, List.set_cons_succ, i64_w, i32_w]
              rfl
            refine pure_ (i := 1) (N := some 78) (v := ?_) (a' := ?_) #[true, true, false, false, false, false, false, false] rfl rfl (any_of HT_.out (by kernel_rfl)) (fun _ _ _ h => h) (Or.inl ⟨by rfl, ?_⟩) ?_ ?_
            rotate_left
            · intro w'
              go_simp
              with_reducible rfl
            rotate_left
            · skip
              simp only [Act.put, List.setIfInBounds_toArray, List.set_cons_zero, List.set_cons_succ, i64_w, i32_w]
              rfl
            refine pure_ (i := 2) (N := some 79) (v := ?_) (a' := ?_) #[true, true, true, false, false, false, false, false] rfl rfl (any_of HT_.out (by kernel_rfl)) (fun _ _ _ h => h) (Or.inl ⟨by rfl, ?_⟩) ?_ ?_
            rotate_left
            · intro w'
              go_simp
              with_reducible rfl
            rotate_left
            · skip
              simp only [Act.put, List.setIfInBounds_toArray, List.set_cons_zero, List.set_cons_succ, i64_w, i32_w]
              rfl
            refine pure_ (i := 3) (N := some 80) (v := ?_) (a' := ?_) #[true, true, true, true, false, false, false, false] rfl rfl (any_of HT_.out (by kernel_rfl)) (fun _ _ _ h => h) (Or.inl ⟨by rfl, ?_⟩) ?_ ?_
            rotate_left
            · intro w'
              go_simp
              with_reducible rfl
            rotate_left
            · skip
              simp only [Act.put, List.setIfInBounds_toArray, List.set_cons_zero, List.set_cons_succ, i64_w, i32_w]
              rfl
            refine take_ (i := 4) (N := some 81) (v := ?_) (a' := ?_) #[true, true, true, true, true, false, false, false] rfl rfl (take_ofW HT_.out HW_.out (by kernel_rfl)) (fun _ _ _ h => h) (Or.inl ⟨by rfl, ?_⟩) hHeld ?_ ?_
            rotate_left
            · intro w' s0
              go_simp
              with_reducible rfl
            rotate_left
            · skip
              simp only [Act.put, List.setIfInBounds_toArray, List.set_cons_zero, List.set_cons_succ, i64_w, i32_w]
              rfl
            refine pure_ (i := 5) (N := some 82) (v := ?_) (a' := ?_) #[true, true, true, true, true, true, false, false] rfl rfl (any_of HT_.out (by kernel_rfl)) (fun _ _ _ h => h) (Or.inl ⟨by rfl, ?_⟩) ?_ ?_
            rotate_left
            · intro w'
              go_simp
              with_reducible rfl
            rotate_left
            · skip
              simp only [Act.put, List.setIfInBounds_toArray, List.set_cons_zero, List.set_cons_succ, i64_w, i32_w]
              rfl
            obtain ⟨w7, hst7, hm7, ht7⟩ := HS6.out.seen.store s HSZ.out (by have h1 := memS_len _ _ _ HS6.out.is; have h2 := HLN.out; rw [List.length_map]; unfold maxLen; omega)
            have b17 := cell_turned ht7 hHeld (by have := HGT.out; omega)
            have b27 := cell_turned ht7 b26 (by have := HGT.out; omega)
            refine one_ (i := 6) (N := none) #[true, true, true, true, true, true, true, false] rfl rfl (one_of HT_.out (by kernel_rfl)) (by decide) (fun K hK => ?_)
            refine skip_ (w1 := ?_) (by rfl) rfl ?_ ?_
            rotate_left
            · go_simp
              rfl
            refine hK.out _ _ b17 (fun hH7 => ?_)
            clear hK K
            clear hHeld
            have HV7 := Aside0.mk (RF.mapped HV6.out ht7)
            have HR7 := Aside0.mk (R_mapped HS6.out.row ht7)
            have HM7 := Aside0.mk (hm7 HSE.out)
            have HB7 : Aside0 (Below w3.heap.size w3 w7) := ⟨pw_below_grown HS6.out.below _ HS6.out.below.size ht7.grown (fun q hq => by cases hq; omega)⟩
            have HI7 := Aside0.mk (HS6.out.map.grown ht7.grown (by simp))
            have HIS := Aside0.mk HS6.out.is
            have HOW := Aside0.mk HS6.out.own
            have HTW6 := Aside0.mk HS6.out.two
            have hsz7 := ht7.grown.size
            clear hst7 hm7 ht7 HS6 HV6 b26 hH7
            obtain ⟨w8, hst8, hm8, ht8⟩ := HI7.out.store (by have := HLN.out; unfold maxLen; omega) p.f1 (by rw [HPP.out]) (by have := HPO.out.at0; omega) (by have := HPO.out.at1; have := HL.out; omega)
            have b18 := cell_turned ht8 b17 (by have := HGT.out; omega)
            have b28 := cell_turned ht8 b27 (by have := HGT.out; omega)
            refine one_ (i := 7) (N := none) #[true, true, true, true, true, true, true, true] rfl rfl (one_of HT_.out (by kernel_rfl)) (by decide) (fun K hK => ?_)
            refine skip_ (w1 := ?_) (by rfl) rfl ?_ ?_
            rotate_left
            · go_simp
              rfl
            refine hK.out _ _ b18 (fun hH8 => ?_)
            clear hK K
            refine done_ (done_of HT_.out (by kernel_rfl)) ?_
            have HV8 := Aside0.mk (RF.mapped HV7.out ht8)
            have HR8 := Aside0.mk (R_mapped HR7.out ht8)
            have HM8 := Aside0.mk (HM7.out.grown ht8.grown (by simp))
            have HB8w : Aside0 (Below w3.heap.size w3 w8) := ⟨pw_below_grown HB7.out _ HB7.out.size ht8.grown (fun q hq => by cases hq; exact Nat.le_refl _)⟩
            have HI8 := Aside0.mk hm8
            have HTW : Aside0 (w3.heap.size + 2 ≤ w8.heap.size) := ⟨Nat.le_trans (Nat.le_trans HTW6.out hsz7) ht8.grown.size⟩
            clear hst8 hm8 ht8 hsz7 HTW6 HV7 HR7 HM7 HB7 HI7 b17 b27 b18 hH8
            have HBB : Aside0 (Below w.heap.size w w8) := ⟨HB3.out.trans (HB8w.out.mono HB3.out.size)⟩
            have HVX := Aside0.mk (RF.apart' HV8.out (Kd.R_typed HR8.out) (by decide))
            go_wp2_with (first | ((with_reducible refine gate_builtin (b := .append) (xs := #[.tmp 83, .tmp 88]) rfl ?_); at_builtin; refine Kd.R_append k39f (w0 := w) w.heap.size rfl (.tmp 83) (.tmp 88) 22 39 (.agg #[.string ⟨#[]⟩, .slice none 0 0]) 40 rfl Tryd.underlying22 info39 rfl (by decide) (by omega) u8 ms ⟨s, p.f2⟩ [.string s, .slice A2 p.f2.length c2] (fun _ => True) (fun k => True ∧ some k ≠ u8.ownBlock) rfl rfl (k39f_mkM _ _ _ ⟨s, p.f2⟩ HVX.out) (fun _ hk => hk) (fun _ _ => trivial) HR8.out HBB.out HBB.out.size (by have h1 := memS_len _ _ _ HIS.out; have h2 := HLN.out; omega) ?_; intro v9 w9 ho hb hg hat; have HRn := Aside0.mk ho; have HGn := Aside0.mk hg; have HAT := Aside0.mk hat; clear ho hb hat hg))
            have hnew : memS ls (k + 1) = some (ms ++ [⟨s, p.f2⟩]) := by rw [HST.out]; unfold memStep; simp only []; rw [if_neg (by rw [HTS.out, HNM.out]; exact HNE.out), HTS.out, HOK.out, HSE.out, if_pos (by simp)]
            refine ⟨⟨k + 1, ms ++ [⟨s, p.f2⟩], by rw [HWI.out], ⟨hk⟩, ⟨RdSt.push hnew HB8w.out HI8.out HM8.out HR8.out HTW.out HOW.out HRn.out HGn.out HAT.out⟩⟩, meas hk HWI.out⟩
      have hkI : ¬ (k : Int) < (ls.length : Int) := by omega
      have hkn : k = ls.length := by have := HK.out; omega
      have HMS : Aside0 (memS ls ls.length = some ms) := ⟨by have h := HS.out.is; rwa [hkn] at h⟩
      have kn := fun (w : World) (a : Option Addr) (n c : Nat) => Lib.run_eql_slice_nil (P := Tryd.prog) w 24 5 a n c 0 0 Tryd.underlying24
      have HS2 : Aside0 (RdSt w3 wo w.heap.size w3.heap.size (w3.heap.size + 1) ls ls.length ms u8) := ⟨by have h := HS.out; rwa [hkn] at h⟩
      have HBO : Aside0 (Below w.heap.size w wo) := ⟨HB3.out.trans (HS2.out.below.mono HB3.out.size)⟩
      obtain ⟨A8, c8, hu8, _, _⟩ := Kd.R_reads HS2.out.row
      subst hu8
      clear hkn HS HK
      obtain rfl : r = (ms, [], 0) := by rw [← HFL.out, finS_some HMS.out]
      go_wp2_with fail
      refine bodyPost_ret (v := .tuple #[.slice A8 ms.length c8, .slice none 0 0, .int .i64 0]) (by simp [results, Tryd.results13, go_sem]) rfl ?_
      exact ⟨_, _, rfl, HS2.out.row, Kd.R_nil _ _ _ _ _, HBO.out⟩
  have her1 : (er != 0) = true := by simpa using her
  have her2 : (er == 0) = false := by simpa using her
  obtain rfl : r = ([], [], er) := HRr.out.symm.trans (by unfold readS; rw [if_neg (by have := HL.out; omega), HPS.out]; exact if_neg her)
  go_wp2_with fail
  refine bodyPost_ret (v := .tuple #[.slice none 0 0, .slice none 0 0, .int .i64 er]) (by simp [results, Tryd.results13, go_sem]) rfl ?_
  exact ⟨_, _, rfl, Kd.R_nil _ _ _ _ _, Kd.R_nil _ _ _ _ _, HB3.out⟩
theorem read_calls (A : Option Addr) (c : Nat) (b : List Int) (hc : b.length ≤ c) (hb8 : Bytes8 b) (w : World) (hv : Vars w) (hr : (Kd.int .u8).C w A b.length b) :
    Calls Tryd.prog 13 #[.slice A b.length c] w fun e w' => ∃ v1 v2, e = .returned (.tuple #[v1, v2, .int .i64 (readS b).2.2]) ∧ k39.R 39 w' w.heap.size (fun _ => True) v1 (readS b).1 ∧ k43.R 43 w' w.heap.size (fun _ => True) v2 (readS b).2.1 ∧ Below w.heap.size w w' :=
  (readf_calls A c b hc hb8 w hv hr).mono fun e w' ⟨v1, v2, h1, h2, h3, h4⟩ => ⟨v1, v2, h1, ful_R (d := k39) (h5 := by decide) h2, h3, h4⟩
end Go.Proofs.YtdjmahmbofhnpaaDoor.Ar
