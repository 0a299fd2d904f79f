/- The reference's Read by contract: readS. -/
import Derived.Test.YtdjmahmbofhnpaaDoorQArVF
namespace Go.Proofs.YtdjmahmbofhnpaaDoor.Ar
open Go.RowKit Go.Maps Go.WideMaps Go.Proofs.YtdjmahmbofhnpaaDoorW.PrintWords Go.Proofs.YtdjmahmbofhnpaaDoorW.PrintLast Go.Proofs.YtdjmahmbofhnpaaDoor.QAr
set_option linter.unusedVariables false
set_option linter.unusedSimpArgs false
theorem info64 : (Tryd.prog.info? 64).map (fun i => (i.zero, i.size, i.bytes)) = some (some (.agg #[(.string ⟨#[]⟩), (.int .i64 0), (.slice none 0 0)]), 3, 48) := by kernel_rfl
theorem PR.cutR {w : World} {base c : Nat} {A : Option Addr} {xs : List S64} (h : PR w base A xs) (hm : 1 ≤ xs.length) (hc : xs.length ≤ c) :
    ∃ A', (∀ W : World, (Instr.slice 60 (.slice A xs.length c) (some (.int .i64 1)) none none).run Tryd.prog W = .ok (.slice A' (xs.drop 1).length (c - 1)) W) ∧ PR w base A' (xs.drop 1) := by
  obtain ⟨i, hi, _, hs, _⟩ := info_parts info64
  refine ⟨if c = 1 then A else A.map (·.add (1 * 3)), fun W => ?_, h.drop hm hc⟩
  rw [List.length_drop]
  exact cut_from 60 64 .i64 Tryd.underlying60 hi 3 hs A xs.length c 1 (by omega) (by omega) W
theorem PR.toC {w : World} {base : Nat} {A : Option Addr} {xs : List S64} (h : PR w base A xs) : Kd.C k64 w A xs.length xs := ReadsRow.imp_ h (Below.refl _ _) (fun _ _ hp => k64.K_of_M hp)
theorem refname_calls (s : ByteArray) (hs : s.size ≤ 9223372036854775807) (w : World) : Calls Tryd.prog 24 #[.string s] w fun e w' => e = .returned (.bool (nameOk s)) ∧ Below w.heap.size w w' := by
  obtain ⟨K, hK⟩ := refName_f s hs
  exact (bulwarkref10_name.calls K s _ w hK).mono fun e w' h => ⟨h.1, h.2.below⟩
theorem refparts_calls (A : Option Addr) (c : Nat) (b : List Int) (hc : b.length ≤ c) (hl : b.length ≤ 65536) (hb : Bytes8 b) (w : World) (hr : (Kd.int .u8).C w A b.length b) :
    Calls Tryd.prog 32 #[.slice A b.length c] w fun e w' => ∃ v, e = .returned (.tuple #[v, .int .i64 (partsS b).2]) ∧ k64.R 64 w' w.heap.size (fun _ => True) v (partsS b).1 ∧ Below w.heap.size w w' := by
  obtain ⟨K, hK⟩ := parts_f b hb hl
  exact (bulwarkref10_parts.calls K A c b _ _ w hr hc hK).mono fun e w' ⟨v, h1, h2, h3⟩ => ⟨v, h1, Kd.S_R h2, h3⟩
/-- What the index gives: entries, if all is right. -/
theorem refindex_calls (A : Option Addr) (c : Nat) (f : List Int) (hc : f.length ≤ c) (hl : f.length ≤ 65536) (hb : Bytes8 f) (B : Option Addr) (d : Nat) (l : List S64) (hd : l.length ≤ d) (hll : l.length ≤ 65536) (w : World) (hr : (Kd.int .u8).C w A f.length f) (hr2 : Kd.C k64 w B l.length l) :
    Calls Tryd.prog 33 #[.slice A f.length c, .slice B l.length d] w fun e w' => ∃ v xs ok, e = .returned (.tuple #[v, .bool ok]) ∧ k43.R 43 w' w.heap.size (fun _ => True) v xs ∧ Below w.heap.size w w' ∧ ok = ((indexS f).2.2 && (idxL l (indexS f).1 (indexS f).2.1 (indexS f).1.length).2) ∧ (ok = true → xs = (idxL l (indexS f).1 (indexS f).2.1 (indexS f).1.length).1) := by
  obtain ⟨K, xs, ok, h1, h2, h3⟩ := index_f f hb hl l hll
  exact (bulwarkref10_index.calls K A c f B d l xs ok w hr hc hr2 hd h1).mono fun e w' ⟨v, g1, g2, g3⟩ => ⟨v, xs, ok, g1, g2, g3, h2, h3⟩
theorem trim_empty : trimSfx (⟨#[]⟩ : ByteArray) = ⟨#[]⟩ := rfl
theorem trim_slash {s : ByteArray} {m : Nat} (hs : s.size = m + 1) (h : bt s (m : Int) = 47) : trimSfx s = s.extract 0 m ∧ ¬ trimSfx s = s := by
  have hm : m < s.size := by omega
  have he : s.extract (s.size - 1) s.size = slashS := by
    apply ba_ext
    obtain ⟨b, r, h1, h2, h3⟩ := bt_list s m hm
    rw [ByteArray.data_extract, Array.toList_extract, List.extract_eq_take_drop, hs, Nat.add_sub_cancel, h1, show m + 1 - m = 1 by omega]
    have hb : b = 47 := UInt8.toNat_inj.1 (by show b.toNat = 47; omega)
    rw [hb]
    rfl
  have e : trimSfx s = s.extract 0 m := by unfold trimSfx; rw [if_pos ⟨by omega, he⟩, hs, Nat.add_sub_cancel]
  refine ⟨e, fun h2 => ?_⟩
  have h3 := congrArg ByteArray.size (e.symm.trans h2)
  rw [ByteArray.size_extract] at h3
  omega
theorem trim_other {s : ByteArray} {m : Nat} (hs : s.size = m + 1) (h : ¬ bt s (m : Int) = 47) : trimSfx s = s := by
  unfold trimSfx
  rw [if_neg]
  rintro ⟨_, he⟩
  apply h
  have hm : m < s.size := by omega
  obtain ⟨b, r, h1, h2, h3⟩ := bt_list s m hm
  have h4 : (s.extract (s.size - 1) s.size).data.toList = [47] := by rw [he]; rfl
  rw [ByteArray.data_extract, Array.toList_extract, List.extract_eq_take_drop, hs, Nat.add_sub_cancel, h1, show m + 1 - m = 1 by omega] at h4
  have hb : b = 47 := by injection h4
  rw [h3, hb]
  rfl
theorem readS_cons {b : List Int} {p : S64} {L : List S64} (hl : b.length ≤ 65536) (h : partsS b = (p :: L, 0)) : readS b = if p.f0 = slashS then (if p.f2 = [] then ([], [], 5) else finS (some p.f2) L) else finS none (p :: L) := by
  unfold readS
  rw [if_neg (by omega), h]
  rfl
theorem good_fin {F : List Int} {L : List S64} {okv : Bool} {xs : List S43} {r : List S39 × List S43 × Int} (hr : (if F = [] then ([], [], 5) else finS (some F) L) = r)
    (hok : okv = ((indexS F).2.2 && (idxL L (indexS F).1 (indexS F).2.1 (indexS F).1.length).2)) (hxs : okv = true → xs = (idxL L (indexS F).1 (indexS F).2.1 (indexS F).1.length).1) : ∀ ms, memS L L.length = some ms → r = if okv = true then (ms, xs, 0) else ([], [], 5) := by
  intro ms h
  rw [← hr]
  by_cases hF0 : F = []
  · subst hF0
    rw [if_pos rfl, hok]
    rfl
  rw [if_neg hF0, finS_some h]
  simp only []
  rw [← hok]
  by_cases ho : okv = true
  · rw [if_pos ho, if_pos ho, hxs ho]
  rw [if_neg ho, if_neg ho]
structure Rd2 (W wr : World) (base : Nat) (l : List S64) (k : Nat) (ms : List S39) (v : Value) : Prop where
  is : memS l k = some ms
  below : Below W.heap.size W wr
  row : k39.R 39 wr base (fun _ => True) v ms
  own : ∀ g, v.ownBlock = some g → W.heap.size ≤ g
theorem Rd2.to {W wr w' : World} {base k : Nat} {l : List S64} {ms : List S39} {v : Value} (h : Rd2 W wr base l k ms v) (hb : Below wr.heap.size wr w') : Rd2 W w' base l k ms v :=
  ⟨h.is, h.below.trans (hb.mono h.below.size), Kd.R_below h.row hb, h.own⟩
theorem Rd2.push {W w8 w9 : World} {base k : Nat} {l : List S64} {ms : List S39} {m : S39} {v v1 : Value} (h : Rd2 W w8 base l k ms v) (his : memS l (k + 1) = some (ms ++ [m]))
    (hr : k39.R 39 w9 base (fun _ => True) v1 (ms ++ [m])) (hg : w8.grownBy w9 v.ownBlock) (hat : v1.ownBlock = v.ownBlock ∨ ∃ b, v1.ownBlock = some b ∧ w8.heap.size ≤ b) : Rd2 W w9 base l (k + 1) (ms ++ [m]) v1 :=
  ⟨his, pw_below_grown h.below _ h.below.size hg h.own, hr, fun g hgg => by
    rcases hat with e | ⟨b, e, hle⟩
    · rw [e] at hgg; exact h.own g hgg
    rw [e] at hgg; cases hgg; have := h.below.size; omega⟩
theorem seen_take (ms : List S39) (s : ByteArray) (j : Nat) (hj : j < ms.length) (h : seenB ((ms.take j).map S39.f0) s = false) (hne : ¬ (ms.getD j z39).f0 = s) : seenB ((ms.take (j + 1)).map S39.f0) s = false := by
  rw [List.take_succ_eq_append_getElem hj, List.map_append]
  unfold seenB at *
  rw [List.any_append, h, Bool.false_or]
  rw [List.getD_eq_getElem?_getD, List.getElem?_eq_getElem hj] at hne
  simp only [List.map_cons, List.map_nil, List.any_cons, List.any_nil, Bool.or_false]
  exact decide_eq_false hne
theorem seen_at (ms : List S39) (s : ByteArray) (j : Nat) (hj : j < ms.length) (he : (ms.getD j z39).f0 = s) : seenB (ms.map S39.f0) s = true := by
  unfold seenB
  rw [List.any_eq_true]
  refine ⟨s, ?_, decide_eq_true rfl⟩
  rw [← he, List.getD_eq_getElem?_getD, List.getElem?_eq_getElem hj]
  exact List.mem_map_of_mem (List.getElem_mem hj)
def T14_9 : Bool × List (List Nat × List Nat) := (true, [([], []), ([0], [0]), ([1], [1]), ([2], [2]), ([], []), ([4], [4]), ([3, 5], [3, 5]), ([6], [6]), ([7], [7]), ([7], [7]), ([8, 6, 0, 1, 2, 3, 4, 5, 6, 7, 8], [8]), ([9, 10, 0, 1, 2, 3, 4, 5, 6, 7, 8, 9, 10], [9])])
theorem tab14_9 : rtab .any (opsOf Tryd.f14 9) = T14_9 := by kernel_rfl
def B14_9 : List Nat := [0, 1, 3, 7, 0, 16, 63, 127, 255, 255, 511, 2047]
theorem bits14_9 : waitsOk T14_9.2 B14_9 = true := by kernel_rfl
set_option maxRecDepth 100000 in
set_option maxHeartbeats 16000000 in
theorem refread_calls (A : Option Addr) (c : Nat) (b : List Int) (hc : b.length ≤ c) (hb8 : Bytes8 b) (w : World) (hr : (Kd.int .u8).C w A b.length b) :
    Calls Tryd.prog 14 #[.slice A b.length c] w fun e w' => ∃ v1 v2, e = .returned (.tuple #[v1, v2, .int .i64 (readS b).2.2]) ∧ k39.R 39 w' w.heap.size (fun _ => True) v1 (readS b).1 ∧ k43.R 43 w' w.heap.size (fun _ => True) v2 (readS b).2.1 ∧ Below w.heap.size w w' := by
  have HR := Aside0.mk hr
  have HC := Aside0.mk hc
  have HB8 := Aside0.mk hb8
  obtain ⟨r, hrr⟩ : ∃ r, readS b = r := ⟨_, rfl⟩
  rw [hrr]
  have HRr := Aside0.mk hrr
  clear hr hrr hb8 hc
  go_enter Tryd.func14, Tryd.ntmps14
  by_cases hbl : 65536 < b.length
  · obtain rfl : r = ([], [], 3) := HRr.out.symm.trans (by unfold readS; rw [if_pos hbl])
    have hbI : (b.length : Int) > 65536 := by omega
    go_wp2_with fail
    refine bodyPost_ret (v := .tuple #[.slice none 0 0, .slice none 0 0, .int .i64 3]) (by simp [results, Tryd.results14, go_sem]) rfl ?_
    exact ⟨_, _, rfl, Kd.R_nil _ _ _ _ _, Kd.R_nil _ _ _ _ _, Below.refl _ _⟩
  have hbI : ¬ (b.length : Int) > 65536 := by omega
  have HL : Aside0 (b.length ≤ 65536) := ⟨by omega⟩
  go_wp2_with fail
  refine (refparts_calls A c b HC.out HL.out HB8.out w HR.out).mono ?_
  intro e w3 h3
  obtain ⟨v5, h3, hr3, hb3⟩ := h3
  subst h3
  obtain ⟨⟨ls, er⟩, hps⟩ : ∃ q, partsS b = q := ⟨_, rfl⟩
  rw [hps] at hr3 ⊢
  have HPS := Aside0.mk hps
  obtain ⟨A5, c5, rfl, hc5, hpr⟩ := PR.of hr3
  simp only [] at hpr hc5
  have HC5 := Aside0.mk hc5
  have HPR := Aside0.mk hpr
  have HB3 := Aside0.mk hb3
  clear hps hr3 hb3 hpr hc5 hbl hbI
  simp only []
  by_cases her : er = 0
  · have HOKs : Aside0 ((∀ p ∈ ls, PartOk b p) ∧ ls.length ≤ b.length) := ⟨by have h := partsS_ok b; rw [HPS.out] at h; exact h⟩
    subst her
    by_cases hls : 0 < ls.length
    · have hlsI : (0 : Int) < (ls.length : Int) := by omega
      obtain ⟨ad, v2, hA, e0, _, e2, hv2⟩ := HPR.out.at_ 0 hls
      subst hA
      have hz : ad.add (0 * 3) = ad := by simp [Addr.add]
      rw [hz] at e0 e2
      obtain ⟨p, hp⟩ : ∃ p, ls.getD 0 z64 = p := ⟨_, rfl⟩
      rw [hp] at e0 hv2
      have HPP := Aside0.mk hp
      have HV2 := Aside0.mk hv2
      have HLS : Aside0 (ls = p :: ls.drop 1) := ⟨by cases ls with | nil => exact absurd hls (by simp) | cons q t => rw [← hp]; rfl⟩
      obtain ⟨nm, hnm⟩ : ∃ x, p.f0 = x := ⟨_, rfl⟩
      rw [hnm] at e0
      have HNM := Aside0.mk hnm
      clear hz hp hv2 hnm
      have HRR : Aside0 ((if p.f0 = slashS then (if p.f2 = [] then ([], [], 5) else finS (some p.f2) (ls.drop 1)) else finS none (p :: ls.drop 1)) = r) := ⟨by rw [← HRr.out]; exact (readS_cons HL.out (by rw [← HLS.out]; exact HPS.out)).symm⟩
      by_cases hsl : nm = (⟨#[47]⟩ : ByteArray)
      · subst hsl
        obtain ⟨A1, hcut, hpr1⟩ := HPR.out.cutR hls HC5.out
        have HLO : Aside0 (∀ q ∈ ls.drop 1, PartOk b q) := ⟨fun q hq => HOKs.out.1 q (List.mem_of_mem_drop hq)⟩
        have HLN : Aside0 ((ls.drop 1).length ≤ 65536) := ⟨by rw [List.length_drop]; have := HOKs.out.2; have := HL.out; omega⟩
        have hpk : PartOk b p := by have h := HOKs.out.1 _ (getD_mem hls); rwa [HPP.out] at h
        have HRQ : Aside0 ((if p.f2 = [] then ([], [], 5) else finS (some p.f2) (ls.drop 1)) = r) := ⟨by rw [← HRR.out]; exact (if_pos HNM.out).symm⟩
        have HLC : Aside0 ((ls.drop 1).length ≤ c5 - 1) := ⟨by rw [List.length_drop]; have := HC5.out; omega⟩
        obtain ⟨L, hL⟩ : ∃ x, ls.drop 1 = x := ⟨_, rfl⟩
        simp only [hL] at hcut hpr1 HLO HLN HRQ HLC
        obtain ⟨Af, cf, rfl, hcf, hCf⟩ := Kd.R_reads HV2.out
        obtain ⟨F, hF⟩ : ∃ x, p.f2 = x := ⟨_, rfl⟩
        have hfb := hpk.bytes HB8.out
        have hfl := hpk.len
        rw [hF] at e2 hcf hCf hfb hfl
        simp only [hF] at HRQ
        have HCF := Aside0.mk hcf
        have HFC3 := Aside0.mk hCf
        have HFB := Aside0.mk hfb
        have HFN : Aside0 (F.length ≤ 65536) := ⟨Nat.le_trans hfl HL.out⟩
        have HPL3 := Aside0.mk hpr1
        clear hcf hCf hfb hfl hpk hpr1 hF hL HPS HRr HRR HLS HOKs HPR HV2 HPP HNM
        go_upto_region 9 with fail
        clear e0
        refine start_ (n := 12) (S := fun w' => w'.cell? ⟨ad.block, ad.off + 2, none⟩ = some (.slice Af F.length cf)) (ds := []) #[false, false, false, false, false, false, false, false, false, false, false, false] (by kernel_rfl) rfl rfl e2 (fun hHeld => ?_)
        refine with_tabW tab14_9 bits14_9 (fun HT_ HW_ => ?_)
        have HB4 : Aside0 (Below w.heap.size w w3.drew) := ⟨below_drew HB3.out⟩
        have HPL4 := Aside0.mk (HPL3.out.below (below_drew (Below.refl _ _)))
        have HFC := Aside0.mk (Kd.C_below HFC3.out (below_drew (Below.refl _ _)))
        generalize w3.drew = w4 at HB4 HPL4 HFC hHeld ⊢
        clear e2 HB3 HPL3 HFC3
        refine pure_ (i := 0) (N := some 35) (v := ?_) (a' := ?_) #[true, false, false, false, false, false, false, false, false, false, false, false] rfl rfl (any_of HT_.out (by kernel_rfl)) (fun _ _ _ h => h) (Or.inl ⟨by rfl, ?_⟩) ?_ ?_
        rotate_left
        · intro w'
          go_simp
          with_reducible rfl
        rotate_left
        · skip
          simp only [Act.put, List.setIfInBounds_toArray, List.set_cons_zero, List.set_cons_succ, i64_w, i32_w]
          rfl
        refine pure_ (i := 1) (N := some 36) (v := ?_) (a' := ?_) #[true, true, false, false, false, false, false, false, false, false, false, false] rfl rfl (any_of HT_.out (by kernel_rfl)) (fun _ _ _ h => h) (Or.inl ⟨by rfl, ?_⟩) ?_ ?_
        rotate_left
        · intro w'
          go_simp
          with_reducible rfl
        rotate_left
        · skip
          simp only [Act.put, List.setIfInBounds_toArray, List.set_cons_zero, List.set_cons_succ, i64_w, i32_w]
          rfl
        refine pure_ (i := 2) (N := some 37) (v := ?_) (a' := ?_) #[true, true, true, false, false, false, false, false, false, false, false, false] rfl rfl (any_of HT_.out (by kernel_rfl)) (fun _ _ _ h => h) (Or.inl ⟨by rfl, ?_⟩) ?_ ?_
        rotate_left
        · intro w'
          go_simp
          with_reducible rfl
        rotate_left
        · skip
          simp only [Act.put, List.setIfInBounds_toArray, List.set_cons_zero, List.set_cons_succ, i64_w, i32_w]
          rfl
        refine take_ (i := 3) (N := some 38) (v := ?_) (a' := ?_) #[true, true, true, true, false, false, false, false, false, false, false, false] rfl rfl (take_ofW HT_.out HW_.out (by kernel_rfl)) (fun _ _ _ h => h) (Or.inl ⟨by rfl, ?_⟩) hHeld ?_ ?_
        rotate_left
        · intro w' s0
          go_simp
          with_reducible rfl
        rotate_left
        · skip
          simp only [Act.put, List.setIfInBounds_toArray, List.set_cons_zero, List.set_cons_succ, i64_w, i32_w]
          rfl
        refine pure_ (i := 4) (N := some 39) (v := ?_) (a' := ?_) #[true, true, true, true, true, false, false, false, false, false, false, false] rfl rfl (any_of HT_.out (by kernel_rfl)) (fun _ _ _ h => h) (Or.inl ⟨by rfl, ?_⟩) ?_ ?_
        rotate_left
        · intro w'
          go_simp
          with_reducible rfl
        rotate_left
        · skip
          simp only [Act.put, List.setIfInBounds_toArray, List.set_cons_zero, List.set_cons_succ, i64_w, i32_w]
          rfl
        refine pure_ (i := 5) (N := some 40) (v := ?_) (a' := ?_) #[true, true, true, true, true, true, false, false, false, false, false, false] rfl rfl (any_of HT_.out (by kernel_rfl)) (fun _ _ _ h => h) (Or.inl ⟨by rfl, ?_⟩) ?_ ?_
        rotate_left
        · intro w'
          go_simp
          with_reducible rfl
        rotate_left
        · skip
          simp only [Act.put, List.setIfInBounds_toArray, List.set_cons_zero, List.set_cons_succ, i64_w, i32_w]
          rfl
        refine one_ (i := 6) (N := some 41) #[true, true, true, true, true, true, true, false, false, false, false, false] rfl rfl (one_of HT_.out (by kernel_rfl)) (by decide) (fun K hK => ?_)
        refine goes_ Tryd.func33 (by kernel_rfl) rfl #[.slice Af F.length cf, .slice A1 L.length (c5 - 1)] (by rfl) rfl rfl (by (try simp only [List.map_toArray, List.map_cons, List.map_nil]); first | done | rfl) ?_
        refine (refindex_calls Af cf F HCF.out HFN.out HFB.out A1 (c5 - 1) L HLC.out HLN.out w4 HFC.out HPL4.out.toC).mono ?_
        intro e wq h6
        obtain ⟨v7, xs, okv, h6, hx6, hb6, hok, hxs⟩ := h6
        subst h6
        obtain ⟨Ax, cx, hv7, _, _⟩ := Kd.R_reads hx6
        subst hv7
        have HOKV := Aside0.mk hok
        have HXS := Aside0.mk hxs
        clear hok hxs
        refine ⟨_, rfl, ?_⟩
        refine hK.out _ _ (pw_cell_below hb6 hHeld) (fun hS => ?_)
        clear hK K
        refine norm_ (a' := ?_) ?_ ?_
        rotate_left
        · show Act.put _ (some 41) _ = _
          simp only [Act.put, List.setIfInBounds_toArray, List.set_cons_zero, List.set_cons_succ, i64_w, i32_w]
          rfl
        have HBQ : Aside0 (Below w.heap.size w wq) := ⟨HB4.out.trans (hb6.mono HB4.out.size)⟩
        have HPL := Aside0.mk (HPL4.out.below hb6)
        have HXR := Aside0.mk (Kd.R_lower hx6 HB4.out.size)
        clear hHeld HPL4 HFC hx6 hb6
        refine pure_ (i := 7) (N := some 34) (v := ?_) (a' := ?_) #[true, true, true, true, true, true, true, true, false, false, false, false] rfl rfl (any_of HT_.out (by kernel_rfl)) (fun _ _ _ h => h) (Or.inl ⟨by rfl, ?_⟩) ?_ ?_
        rotate_left
        · intro w'
          go_simp
          with_reducible rfl
        rotate_left
        · skip
          simp only [Act.put, List.setIfInBounds_toArray, List.set_cons_zero, List.set_cons_succ, i64_w, i32_w]
          rfl
        refine pure_ (i := 8) (N := some 42) (v := ?_) (a' := ?_) #[true, true, true, true, true, true, true, true, true, false, false, false] rfl rfl (any_of HT_.out (by kernel_rfl)) (fun _ _ _ h => h) (Or.inl ⟨by rfl, ?_⟩) ?_ ?_
        rotate_left
        · intro w'
          go_simp
          with_reducible rfl
        rotate_left
        · skip
          simp only [Act.put, List.setIfInBounds_toArray, List.set_cons_zero, List.set_cons_succ, i64_w, i32_w]
          rfl
        refine pure_ (i := 9) (N := some 43) (v := ?_) (a' := ?_) #[true, true, true, true, true, true, true, true, true, true, false, false] rfl rfl (any_of HT_.out (by kernel_rfl)) (fun _ _ _ h => h) (Or.inl ⟨by rfl, ?_⟩) ?_ ?_
        rotate_left
        · intro w'
          go_simp
          with_reducible rfl
        rotate_left
        · skip
          simp only [Act.put, List.setIfInBounds_toArray, List.set_cons_zero, List.set_cons_succ, i64_w, i32_w]
          rfl
        refine one_ (i := 10) (N := some 7) #[true, true, true, true, true, true, true, true, true, true, true, false] rfl rfl (one_of HT_.out (by kernel_rfl)) (by decide) (fun K hK => ?_)
        refine value_ (w1 := ?_) (v := ?_) (by rfl) rfl ?_ ?_
        rotate_left 2
        · go_simp
          constructor
          · rfl
          rfl
        refine hK.out _ _ hS (fun hS2 => ?_)
        clear hK K
        refine norm_ (a' := ?_) ?_ ?_
        rotate_left
        · show Act.put _ (some 7) _ = _
          simp only [Act.put, List.setIfInBounds_toArray, List.set_cons_zero, List.set_cons_succ, i64_w, i32_w]
          rfl
        clear hS
        refine one_ (i := 11) (N := some 8) #[true, true, true, true, true, true, true, true, true, true, true, true] rfl rfl (one_of HT_.out (by kernel_rfl)) (by decide) (fun K hK => ?_)
        refine value_ (w1 := ?_) (v := ?_) (by rfl) rfl ?_ ?_
        rotate_left 2
        · go_simp
          constructor
          · rfl
          rfl
        refine hK.out _ _ hS2 (fun hS3 => ?_)
        clear hK K
        refine norm_ (a' := ?_) ?_ ?_
        rotate_left
        · show Act.put _ (some 8) _ = _
          simp only [Act.put, List.setIfInBounds_toArray, List.set_cons_zero, List.set_cons_succ, i64_w, i32_w]
          rfl
        refine done_ (done_of HT_.out (by kernel_rfl)) ?_
        have HBAD : Aside0 (memS L L.length = none → r = ([], [], 5)) := ⟨fun h => by rw [← HRQ.out]; split; rfl; unfold finS; rw [h]⟩
        have HGOOD := Aside0.mk (good_fin HRQ.out HOKV.out HXS.out)
        clear HOKV HXS HRQ hS2 hS3
        go_upto_region 11 with fail
        clear hcut hls hlsI
        go_wp2_with fail
        go_loopw [9, 10] (fun v9 v10 wr => ∃ (k : Nat) (ms : List S39), v10 = .int .i64 k ∧ Aside0 (k ≤ L.length) ∧ Aside0 (Rd2 wq wr w.heap.size L k ms v9)) (fun _ v10 _ => L.length - (intOf v10).toNat)
        case atStart => exact ⟨0, [], rfl, ⟨Nat.zero_le _⟩, ⟨⟨rfl, Below.refl _ _, Kd.R_nil _ _ _ _ _, fun g hg => by simp [Value.ownBlock] at hg⟩⟩⟩
        case round =>
          obtain ⟨wo, rfl⟩ : ∃ q, q = wr := ⟨_, rfl⟩
          obtain ⟨k, ms, rfl, HK, HS⟩ := hrel
          have hln := HLN.out
          have HBO : Aside0 (Below w.heap.size w wo) := ⟨HBQ.out.trans (HS.out.below.mono HBQ.out.size)⟩
          by_cases hk : k < L.length
          · have hkI : (k : Int) < (L.length : Int) := by omega
            have HWI : Aside0 (wrap64 ((k : Int) + 1) = ((k + 1 : Nat) : Int)) := ⟨wk (A := k) (k := 1) (by omega) 1 rfl⟩
            obtain ⟨ad2, v2, hA2, e0, _, e2, hv2⟩ := (HPL.out.below HS.out.below).at_ k hk
            cases hA2
            have hpo := HLO.out _ (getD_mem hk)
            have hstep := memS_succ L k hk
            obtain ⟨p, hp⟩ : ∃ p, L.getD k z64 = p := ⟨_, rfl⟩
            rw [hp] at e0 hv2 hpo hstep
            have HPP := Aside0.mk hp
            obtain ⟨A2, c2, rfl, hc2, _⟩ := Kd.R_reads hv2
            have HV2 := Aside0.mk hv2
            have hst2 : memS L (k + 1) = memStep (some ms) p := by rw [hstep, HS.out.is]
            have HST := Aside0.mk hst2
            obtain ⟨nm, hnm⟩ : ∃ x, p.f0 = x := ⟨_, rfl⟩
            have hsz := hpo.name
            rw [hnm] at e0 hsz
            have HNM := Aside0.mk hnm
            have HSZ := Aside0.mk hsz
            clear hp hpo hv2 hstep hst2 hc2 hln hnm
            obtain ⟨A9, c9, hu9, hc9, hC9⟩ := Kd.R_reads HS.out.row
            subst hu9
            have HC9 := Aside0.mk hC9
            clear hC9
            by_cases hem : nm = (⟨#[]⟩ : ByteArray)
            · subst hem
              obtain rfl : r = ([], [], 5) := HBAD.out (memS_stop _ (k + 1) (by rw [HST.out]; unfold memStep; simp only []; rw [if_pos (by rw [HNM.out]; exact trim_empty)]) hk)
              go_wp2_with fail
              refine bodyPost_ret (v := .tuple #[.slice none 0 0, .slice none 0 0, .int .i64 5]) (by simp [results, Tryd.results14, go_sem]) rfl ?_
              exact ⟨_, _, rfl, Kd.R_nil _ _ _ _ _, Kd.R_nil _ _ _ _ _, HBO.out⟩
            have hq0 : ¬ nm.toList = [] := fun h => hem (by rw [Lib.toList_data] at h; rw [← Lib.mk_data nm, h])
            have hq1 : nm.toList.isEmpty = false := by simpa using hq0
            have hq2 : (nm.toList == []) = false := by simpa using hq0
            obtain ⟨m, hm⟩ : ∃ m, nm.size = m + 1 := ⟨nm.size - 1, by have h0 : nm.size ≠ 0 := fun h => hem (by apply ba_ext; exact List.eq_nil_of_length_eq_zero (by rw [size_list]; exact h)); omega⟩
            have hmI : (nm.size : Int) - 1 = (m : Int) := by omega
            have hm0 : (0 : Int) ≤ (m : Int) := by omega
            have hm1 : (m : Int) < (nm.size : Int) := by omega
            have hm2 : m < nm.size := by omega
            have HMM := Aside0.mk hm
            obtain ⟨ch, hch⟩ : ∃ x, bt nm (m : Int) = x := ⟨_, rfl⟩
            have hbt : ∀ h : m < nm.size, ((nm[m]'h).toNat : Int) = ch := fun h => by rw [← hch]; exact bt_at nm (m : Int) h
            have HCH := Aside0.mk hch
            clear hem hm hch
            by_cases h47 : ch = 47
            · subst h47
              have hme : m ≤ nm.size := by omega
              obtain ⟨s, hs⟩ : ∃ x, nm.extract 0 m = x := ⟨_, rfl⟩
              have HTR : Aside0 (trimSfx nm = s ∧ ¬ trimSfx nm = nm) := ⟨by have h := trim_slash HMM.out HCH.out; rwa [hs] at h⟩
              have HSS : Aside0 (s.size ≤ 9223372036854775807) := ⟨by rw [← hs, ByteArray.size_extract]; have := HSZ.out; omega⟩
              obtain ⟨ok, hok⟩ : ∃ b, nameOk s = b := ⟨_, rfl⟩
              have HOK := Aside0.mk hok
              have NC := Aside0.mk (fun w => refname_calls s HSS.out w)
              simp only [hok] at NC
              clear hok
              go_wp2_with fail
              refine (NC.out _).mono ?_
              clear NC
              intro e w5 h5
              obtain ⟨h5, hb5⟩ := h5
              subst h5
              have HS5 := Aside0.mk (HS.out.to hb5)
              have HC5x := Aside0.mk (Kd.C_below HC9.out hb5)
              have HV5 := Aside0.mk (Kd.R_below HV2.out hb5)
              have HB5 : Aside0 (Below w.heap.size w w5) := ⟨HBO.out.trans (hb5.mono HBO.out.size)⟩
              replace e2 := pw_cell_below hb5 e2
              clear HS HC9 HV2 HBO hb5 e0 hbt
              simp only []
              cases ok with
              | false =>
                obtain rfl : r = ([], [], 5) := HBAD.out (memS_stop _ (k + 1) (by rw [HST.out]; unfold memStep; simp only []; rw [if_neg (by rw [HNM.out]; exact HTR.out.2), HNM.out, HTR.out.1, HOK.out, if_neg (by simp)]) hk)
                go_wp2_with fail
                refine bodyPost_ret (v := .tuple #[.slice none 0 0, .slice none 0 0, .int .i64 5]) (by simp [results, Tryd.results14, go_sem]) rfl ?_
                exact ⟨_, _, rfl, Kd.R_nil _ _ _ _ _, Kd.R_nil _ _ _ _ _, HB5.out⟩
              | true =>
                go_wp2_with fail
                clear hq0 hq1 hq2 hmI hm0 hm1 hm2 hme hs
                go_loopw [12] (fun v12 wr => ∃ j : Nat, v12 = .int .i64 j ∧ Aside0 (j ≤ ms.length) ∧ Aside0 (seenB ((ms.take j).map S39.f0) s = false) ∧ wr = w5) (fun v12 _ => ms.length - (intOf v12).toNat)
                case atStart => exact ⟨0, rfl, ⟨Nat.zero_le _⟩, ⟨rfl⟩, rfl⟩
                case round =>
                  obtain ⟨j, rfl, HJ, HSJ, rfl⟩ := hrel
                  have hml := memS_len _ _ _ HS5.out.is
                  have hln := HLN.out
                  by_cases hj : j < ms.length
                  · have hjI : (j : Int) < (ms.length : Int) := by omega
                    have HWJ : Aside0 (wrap64 ((j : Int) + 1) = ((j + 1 : Nat) : Int)) := ⟨wk (A := j) (k := 1) (by omega) 1 rfl⟩
                    obtain ⟨ad3, A3, c3, hA3, f0, _, _, _⟩ := at_T39 HC5x.out (j : Int) (by omega) hjI
                    cases hA3
                    obtain ⟨on, hon⟩ : ∃ x, (rd_T39 ms (j : Int)).f0 = x := ⟨_, rfl⟩
                    rw [hon, Int.toNat_natCast] at f0
                    have HON : Aside0 ((ms.getD j z39).f0 = on) := ⟨by rw [← hon]; unfold rd_T39; rw [Int.toNat_natCast]⟩
                    clear hon hml hln
                    by_cases heq : on = s
                    · have HEQ := Aside0.mk heq
                      subst heq
                      obtain rfl : r = ([], [], 5) := HBAD.out (memS_stop _ (k + 1) (by rw [HST.out]; unfold memStep; simp only []; rw [if_neg (by rw [HNM.out]; exact HTR.out.2), HNM.out, HTR.out.1, HOK.out, seen_at ms _ j hj HON.out, if_neg (by simp)]) hk)
                      go_wp2_with fail
                      refine bodyPost_ret (v := .tuple #[.slice none 0 0, .slice none 0 0, .int .i64 5]) (by simp [results, Tryd.results14, go_sem]) rfl ?_
                      exact ⟨_, _, rfl, Kd.R_nil _ _ _ _ _, Kd.R_nil _ _ _ _ _, HB5.out⟩
                    have h1 := toList_ne2 heq
                    have h2 : (on.toList == s.toList) = false := beq_eq_false_iff_ne.2 h1
                    go_wp2_with fail
                    refine ⟨⟨j + 1, by rw [HWJ.out], ⟨hj⟩, ⟨seen_take ms s j hj HSJ.out (by rw [HON.out]; exact heq)⟩, by first | rfl | trivial⟩, meas hj HWJ.out⟩
                  have hjI : ¬ (j : Int) < (ms.length : Int) := by omega
                  have HSF : Aside0 (seenB (ms.map S39.f0) s = false) := ⟨by have h := HSJ.out; rwa [show j = ms.length by have := HJ.out; omega, List.take_length] at h⟩
                  clear HSJ HJ hml hln
                  have hnew : memS L (k + 1) = some (ms ++ [⟨s, p.f2⟩]) := by rw [HST.out]; unfold memStep; simp only []; rw [if_neg (by rw [HNM.out]; exact HTR.out.2), HNM.out, HTR.out.1, HOK.out, HSF.out, if_pos (by simp)]
                  have HNW := Aside0.mk hnew
                  clear hnew
                  have HVX := Aside0.mk (Kd.R_apart' HV5.out (Kd.R_typed HS5.out.row) (by decide))
                  go_wp2_with (((with_reducible refine gate_builtin (b := .append) (xs := #[.tmp 94, .tmp 102]) rfl ?_); at_builtin; apply id_stop))
                  unfold Stop
                  refine Kd.R_append k39 (w0 := w) w.heap.size rfl (.tmp 94) (.tmp 102) 22 39 (.agg #[.string ⟨#[]⟩, .slice none 0 0]) 40 rfl Tryd.underlying22 info39 rfl (by decide) (by omega) (.slice A9 ms.length c9) ms ⟨s, p.f2⟩ [.string s, .slice A2 p.f2.length c2] (fun _ => True) (fun k => True ∧ some k ≠ (Value.slice A9 ms.length c9).ownBlock) rfl rfl (k39_mkM _ _ _ ⟨s, p.f2⟩ HVX.out) (fun _ hk => hk) (fun _ _ => trivial) HS5.out.row HB5.out HB5.out.size (by have h1 := memS_len _ _ _ HS5.out.is; have h2 := HLN.out; omega) ?_
                  intro v9 w9 ho hb hg hat
                  have HRn := Aside0.mk ho
                  have HGn := Aside0.mk hg
                  have HAT := Aside0.mk hat
                  clear ho hb hat hg
                  go_wp2_with fail
                  refine ⟨⟨k + 1, ms ++ [⟨s, p.f2⟩], by rw [HWI.out], ⟨hk⟩, ⟨Rd2.push HS5.out HNW.out HRn.out HGn.out HAT.out⟩⟩, meas hk HWI.out⟩
            have hb47 : (ch == 47) = false := by simpa using h47
            have hb48 : (ch != 47) = true := by simpa using h47
            obtain rfl : r = ([], [], 5) := HBAD.out (memS_stop _ (k + 1) (by rw [HST.out]; unfold memStep; simp only []; rw [if_pos (by rw [HNM.out]; exact trim_other HMM.out (by rw [HCH.out]; exact h47))]) hk)
            go_wp2_with fail
            refine bodyPost_ret (v := .tuple #[.slice none 0 0, .slice none 0 0, .int .i64 5]) (by simp [results, Tryd.results14, go_sem]) rfl ?_
            exact ⟨_, _, rfl, Kd.R_nil _ _ _ _ _, Kd.R_nil _ _ _ _ _, HBO.out⟩
          have hkI : ¬ (k : Int) < (L.length : Int) := by omega
          have hkn : k = L.length := by have := HK.out; omega
          have HMS : Aside0 (memS L L.length = some ms) := ⟨by have h := HS.out.is; rwa [hkn] at h⟩
          obtain ⟨A8, c8, hu8, _, _⟩ := Kd.R_reads HS.out.row
          subst hu8
          clear hkn HK
          have hg := HGOOD.out ms HMS.out
          cases okv
          · obtain rfl : r = ([], [], 5) := hg
            go_wp2_with fail
            refine bodyPost_ret (v := .tuple #[.slice none 0 0, .slice none 0 0, .int .i64 5]) (by simp [results, Tryd.results14, go_sem]) rfl ?_
            exact ⟨_, _, rfl, Kd.R_nil _ _ _ _ _, Kd.R_nil _ _ _ _ _, HBO.out⟩
          obtain rfl : r = (ms, xs, 0) := hg
          go_wp2_with fail
          refine bodyPost_ret (v := .tuple #[.slice A8 ms.length c8, .slice Ax xs.length cx, .int .i64 0]) (by simp [results, Tryd.results14, go_sem]) rfl ?_
          exact ⟨_, _, rfl, HS.out.row, Kd.R_below HXR.out HS.out.below, HBO.out⟩
      have hs1 := toList_ne2 hsl
      have hs2 : (nm.toList == [47]) = false := beq_eq_false_iff_ne.2 (fun e => hsl (by rw [Lib.toList_data] at e; rw [← Lib.mk_data nm, e]))
      have HFL : Aside0 (finS none ls = r) := ⟨by have h := HRR.out; rw [if_neg (by rw [HNM.out]; exact hsl), ← HLS.out] at h; exact h⟩
      have HPL := HPR
      have HBQ := HB3
      go_upto_region 11 with fail
      clear e0 e2 hs1 hs2 HRR
      have HLO := Aside0.mk HOKs.out.1
      have HLN : Aside0 (ls.length ≤ 65536) := ⟨Nat.le_trans HOKs.out.2 HL.out⟩
      have HBAD : Aside0 (memS ls ls.length = none → r = ([], [], 5)) := ⟨fun h => by rw [← HFL.out]; unfold finS; rw [h]⟩
      have HGOOD : Aside0 (∀ ms, memS ls ls.length = some ms → r = (ms, [], 0)) := ⟨fun ms h => by rw [← HFL.out, finS_some h]⟩
      clear hls hlsI HPR HPS HRr HFL
      generalize w3 = wq at *
      go_wp2_with fail
      go_loopw [9, 10] (fun v9 v10 wr => ∃ (k : Nat) (ms : List S39), v10 = .int .i64 k ∧ Aside0 (k ≤ ls.length) ∧ Aside0 (Rd2 wq wr w.heap.size ls k ms v9)) (fun _ v10 _ => ls.length - (intOf v10).toNat)
      case atStart => exact ⟨0, [], rfl, ⟨Nat.zero_le _⟩, ⟨⟨rfl, Below.refl _ _, Kd.R_nil _ _ _ _ _, fun g hg => by simp [Value.ownBlock] at hg⟩⟩⟩
      case round =>
        obtain ⟨wo, rfl⟩ : ∃ q, q = wr := ⟨_, rfl⟩
        obtain ⟨k, ms, rfl, HK, HS⟩ := hrel
        have hln := HLN.out
        have HBO : Aside0 (Below w.heap.size w wo) := ⟨HBQ.out.trans (HS.out.below.mono HBQ.out.size)⟩
        by_cases hk : k < ls.length
        · have hkI : (k : Int) < (ls.length : Int) := by omega
          have HWI : Aside0 (wrap64 ((k : Int) + 1) = ((k + 1 : Nat) : Int)) := ⟨wk (A := k) (k := 1) (by omega) 1 rfl⟩
          obtain ⟨ad2, v2, hA2, e0, _, e2, hv2⟩ := (HPL.out.below HS.out.below).at_ k hk
          cases hA2
          have hpo := HLO.out _ (getD_mem hk)
          have hstep := memS_succ ls k hk
          obtain ⟨p, hp⟩ : ∃ p, ls.getD k z64 = p := ⟨_, rfl⟩
          rw [hp] at e0 hv2 hpo hstep
          have HPP := Aside0.mk hp
          obtain ⟨A2, c2, rfl, hc2, _⟩ := Kd.R_reads hv2
          have HV2 := Aside0.mk hv2
          have hst2 : memS ls (k + 1) = memStep (some ms) p := by rw [hstep, HS.out.is]
          have HST := Aside0.mk hst2
          obtain ⟨nm, hnm⟩ : ∃ x, p.f0 = x := ⟨_, rfl⟩
          have hsz := hpo.name
          rw [hnm] at e0 hsz
          have HNM := Aside0.mk hnm
          have HSZ := Aside0.mk hsz
          clear hp hpo hv2 hstep hst2 hc2 hln hnm
          obtain ⟨A9, c9, hu9, hc9, hC9⟩ := Kd.R_reads HS.out.row
          subst hu9
          have HC9 := Aside0.mk hC9
          clear hC9
          by_cases hem : nm = (⟨#[]⟩ : ByteArray)
          · subst hem
            obtain rfl : r = ([], [], 5) := HBAD.out (memS_stop _ (k + 1) (by rw [HST.out]; unfold memStep; simp only []; rw [if_pos (by rw [HNM.out]; exact trim_empty)]) hk)
            go_wp2_with fail
            refine bodyPost_ret (v := .tuple #[.slice none 0 0, .slice none 0 0, .int .i64 5]) (by simp [results, Tryd.results14, go_sem]) rfl ?_
            exact ⟨_, _, rfl, Kd.R_nil _ _ _ _ _, Kd.R_nil _ _ _ _ _, HBO.out⟩
          have hq0 : ¬ nm.toList = [] := fun h => hem (by rw [Lib.toList_data] at h; rw [← Lib.mk_data nm, h])
          have hq1 : nm.toList.isEmpty = false := by simpa using hq0
          have hq2 : (nm.toList == []) = false := by simpa using hq0
          obtain ⟨m, hm⟩ : ∃ m, nm.size = m + 1 := ⟨nm.size - 1, by have h0 : nm.size ≠ 0 := fun h => hem (by apply ba_ext; exact List.eq_nil_of_length_eq_zero (by rw [size_list]; exact h)); omega⟩
          have hmI : (nm.size : Int) - 1 = (m : Int) := by omega
          have hm0 : (0 : Int) ≤ (m : Int) := by omega
          have hm1 : (m : Int) < (nm.size : Int) := by omega
          have hm2 : m < nm.size := by omega
          have HMM := Aside0.mk hm
          obtain ⟨ch, hch⟩ : ∃ x, bt nm (m : Int) = x := ⟨_, rfl⟩
          have hbt : ∀ h : m < nm.size, ((nm[m]'h).toNat : Int) = ch := fun h => by rw [← hch]; exact bt_at nm (m : Int) h
          have HCH := Aside0.mk hch
          clear hem hm hch
          by_cases h47 : ch = 47
          · subst h47
            have hme : m ≤ nm.size := by omega
            obtain ⟨s, hs⟩ : ∃ x, nm.extract 0 m = x := ⟨_, rfl⟩
            have HTR : Aside0 (trimSfx nm = s ∧ ¬ trimSfx nm = nm) := ⟨by have h := trim_slash HMM.out HCH.out; rwa [hs] at h⟩
            have HSS : Aside0 (s.size ≤ 9223372036854775807) := ⟨by rw [← hs, ByteArray.size_extract]; have := HSZ.out; omega⟩
            obtain ⟨ok, hok⟩ : ∃ b, nameOk s = b := ⟨_, rfl⟩
            have HOK := Aside0.mk hok
            have NC := Aside0.mk (fun w => refname_calls s HSS.out w)
            simp only [hok] at NC
            clear hok
            go_wp2_with fail
            refine (NC.out _).mono ?_
            clear NC
            intro e w5 h5
            obtain ⟨h5, hb5⟩ := h5
            subst h5
            have HS5 := Aside0.mk (HS.out.to hb5)
            have HC5x := Aside0.mk (Kd.C_below HC9.out hb5)
            have HV5 := Aside0.mk (Kd.R_below HV2.out hb5)
            have HB5 : Aside0 (Below w.heap.size w w5) := ⟨HBO.out.trans (hb5.mono HBO.out.size)⟩
            replace e2 := pw_cell_below hb5 e2
            clear HS HC9 HV2 HBO hb5 e0 hbt
            simp only []
            cases ok with
            | false =>
              obtain rfl : r = ([], [], 5) := HBAD.out (memS_stop _ (k + 1) (by rw [HST.out]; unfold memStep; simp only []; rw [if_neg (by rw [HNM.out]; exact HTR.out.2), HNM.out, HTR.out.1, HOK.out, if_neg (by simp)]) hk)
              go_wp2_with fail
              refine bodyPost_ret (v := .tuple #[.slice none 0 0, .slice none 0 0, .int .i64 5]) (by simp [results, Tryd.results14, go_sem]) rfl ?_
              exact ⟨_, _, rfl, Kd.R_nil _ _ _ _ _, Kd.R_nil _ _ _ _ _, HB5.out⟩
            | true =>
              go_wp2_with fail
              clear hq0 hq1 hq2 hmI hm0 hm1 hm2 hme hs
              go_loopw [12] (fun v12 wr => ∃ j : Nat, v12 = .int .i64 j ∧ Aside0 (j ≤ ms.length) ∧ Aside0 (seenB ((ms.take j).map S39.f0) s = false) ∧ wr = w5) (fun v12 _ => ms.length - (intOf v12).toNat)
              case atStart => exact ⟨0, rfl, ⟨Nat.zero_le _⟩, ⟨rfl⟩, rfl⟩
              case round =>
                obtain ⟨j, rfl, HJ, HSJ, rfl⟩ := hrel
                have hml := memS_len _ _ _ HS5.out.is
                have hln := HLN.out
                by_cases hj : j < ms.length
                · have hjI : (j : Int) < (ms.length : Int) := by omega
                  have HWJ : Aside0 (wrap64 ((j : Int) + 1) = ((j + 1 : Nat) : Int)) := ⟨wk (A := j) (k := 1) (by omega) 1 rfl⟩
                  obtain ⟨ad3, A3, c3, hA3, f0, _, _, _⟩ := at_T39 HC5x.out (j : Int) (by omega) hjI
                  cases hA3
                  obtain ⟨on, hon⟩ : ∃ x, (rd_T39 ms (j : Int)).f0 = x := ⟨_, rfl⟩
                  rw [hon, Int.toNat_natCast] at f0
                  have HON : Aside0 ((ms.getD j z39).f0 = on) := ⟨by rw [← hon]; unfold rd_T39; rw [Int.toNat_natCast]⟩
                  clear hon hml hln
                  by_cases heq : on = s
                  · have HEQ := Aside0.mk heq
                    subst heq
                    obtain rfl : r = ([], [], 5) := HBAD.out (memS_stop _ (k + 1) (by rw [HST.out]; unfold memStep; simp only []; rw [if_neg (by rw [HNM.out]; exact HTR.out.2), HNM.out, HTR.out.1, HOK.out, seen_at ms _ j hj HON.out, if_neg (by simp)]) hk)
                    go_wp2_with fail
                    refine bodyPost_ret (v := .tuple #[.slice none 0 0, .slice none 0 0, .int .i64 5]) (by simp [results, Tryd.results14, go_sem]) rfl ?_
                    exact ⟨_, _, rfl, Kd.R_nil _ _ _ _ _, Kd.R_nil _ _ _ _ _, HB5.out⟩
                  have h1 := toList_ne2 heq
                  have h2 : (on.toList == s.toList) = false := beq_eq_false_iff_ne.2 h1
                  go_wp2_with fail
                  refine ⟨⟨j + 1, by rw [HWJ.out], ⟨hj⟩, ⟨seen_take ms s j hj HSJ.out (by rw [HON.out]; exact heq)⟩, by first | rfl | trivial⟩, meas hj HWJ.out⟩
                have hjI : ¬ (j : Int) < (ms.length : Int) := by omega
                have HSF : Aside0 (seenB (ms.map S39.f0) s = false) := ⟨by have h := HSJ.out; rwa [show j = ms.length by have := HJ.out; omega, List.take_length] at h⟩
                clear HSJ HJ hml hln
                have hnew : memS ls (k + 1) = some (ms ++ [⟨s, p.f2⟩]) := by rw [HST.out]; unfold memStep; simp only []; rw [if_neg (by rw [HNM.out]; exact HTR.out.2), HNM.out, HTR.out.1, HOK.out, HSF.out, if_pos (by simp)]
                have HNW := Aside0.mk hnew
                clear hnew
                have HVX := Aside0.mk (Kd.R_apart' HV5.out (Kd.R_typed HS5.out.row) (by decide))
                go_wp2_with (((with_reducible refine gate_builtin (b := .append) (xs := #[.tmp 94, .tmp 102]) rfl ?_); at_builtin; apply id_stop))
                unfold Stop
                refine Kd.R_append k39 (w0 := w) w.heap.size rfl (.tmp 94) (.tmp 102) 22 39 (.agg #[.string ⟨#[]⟩, .slice none 0 0]) 40 rfl Tryd.underlying22 info39 rfl (by decide) (by omega) (.slice A9 ms.length c9) ms ⟨s, p.f2⟩ [.string s, .slice A2 p.f2.length c2] (fun _ => True) (fun k => True ∧ some k ≠ (Value.slice A9 ms.length c9).ownBlock) rfl rfl (k39_mkM _ _ _ ⟨s, p.f2⟩ HVX.out) (fun _ hk => hk) (fun _ _ => trivial) HS5.out.row HB5.out HB5.out.size (by have h1 := memS_len _ _ _ HS5.out.is; have h2 := HLN.out; omega) ?_
                intro v9 w9 ho hb hg hat
                have HRn := Aside0.mk ho
                have HGn := Aside0.mk hg
                have HAT := Aside0.mk hat
                clear ho hb hat hg
                go_wp2_with fail
                refine ⟨⟨k + 1, ms ++ [⟨s, p.f2⟩], by rw [HWI.out], ⟨hk⟩, ⟨Rd2.push HS5.out HNW.out HRn.out HGn.out HAT.out⟩⟩, meas hk HWI.out⟩
          have hb47 : (ch == 47) = false := by simpa using h47
          have hb48 : (ch != 47) = true := by simpa using h47
          obtain rfl : r = ([], [], 5) := HBAD.out (memS_stop _ (k + 1) (by rw [HST.out]; unfold memStep; simp only []; rw [if_pos (by rw [HNM.out]; exact trim_other HMM.out (by rw [HCH.out]; exact h47))]) hk)
          go_wp2_with fail
          refine bodyPost_ret (v := .tuple #[.slice none 0 0, .slice none 0 0, .int .i64 5]) (by simp [results, Tryd.results14, go_sem]) rfl ?_
          exact ⟨_, _, rfl, Kd.R_nil _ _ _ _ _, Kd.R_nil _ _ _ _ _, HBO.out⟩
        have hkI : ¬ (k : Int) < (ls.length : Int) := by omega
        have hkn : k = ls.length := by have := HK.out; omega
        have HMS : Aside0 (memS ls ls.length = some ms) := ⟨by have h := HS.out.is; rwa [hkn] at h⟩
        obtain ⟨A8, c8, hu8, _, _⟩ := Kd.R_reads HS.out.row
        subst hu8
        clear hkn HK
        obtain rfl : r = (ms, [], 0) := HGOOD.out ms HMS.out
        go_wp2_with fail
        refine bodyPost_ret (v := .tuple #[.slice A8 ms.length c8, .slice none 0 0, .int .i64 0]) (by simp [results, Tryd.results14, go_sem]) rfl ?_
        exact ⟨_, _, rfl, HS.out.row, Kd.R_nil _ _ _ _ _, HBO.out⟩
    have hlsI : ¬ (0 : Int) < (ls.length : Int) := by omega
    have HFL : Aside0 (finS none ls = r) := ⟨by obtain rfl : ls = [] := List.eq_nil_of_length_eq_zero (by omega); rw [← HRr.out]; unfold readS; rw [if_neg (by have := HL.out; omega), HPS.out]; rfl⟩
    have HPL := HPR
    have HBQ := HB3
    go_upto_region 11 with fail
    have HLO := Aside0.mk HOKs.out.1
    have HLN : Aside0 (ls.length ≤ 65536) := ⟨Nat.le_trans HOKs.out.2 HL.out⟩
    have HBAD : Aside0 (memS ls ls.length = none → r = ([], [], 5)) := ⟨fun h => by rw [← HFL.out]; unfold finS; rw [h]⟩
    have HGOOD : Aside0 (∀ ms, memS ls ls.length = some ms → r = (ms, [], 0)) := ⟨fun ms h => by rw [← HFL.out, finS_some h]⟩
    clear hls hlsI HPR HPS HRr HFL
    generalize w3 = wq at *
    go_wp2_with fail
    go_loopw [9, 10] (fun v9 v10 wr => ∃ (k : Nat) (ms : List S39), v10 = .int .i64 k ∧ Aside0 (k ≤ ls.length) ∧ Aside0 (Rd2 wq wr w.heap.size ls k ms v9)) (fun _ v10 _ => ls.length - (intOf v10).toNat)
    case atStart => exact ⟨0, [], rfl, ⟨Nat.zero_le _⟩, ⟨⟨rfl, Below.refl _ _, Kd.R_nil _ _ _ _ _, fun g hg => by simp [Value.ownBlock] at hg⟩⟩⟩
    case round =>
      obtain ⟨wo, rfl⟩ : ∃ q, q = wr := ⟨_, rfl⟩
      obtain ⟨k, ms, rfl, HK, HS⟩ := hrel
      have hln := HLN.out
      have HBO : Aside0 (Below w.heap.size w wo) := ⟨HBQ.out.trans (HS.out.below.mono HBQ.out.size)⟩
      by_cases hk : k < ls.length
      · have hkI : (k : Int) < (ls.length : Int) := by omega
        have HWI : Aside0 (wrap64 ((k : Int) + 1) = ((k + 1 : Nat) : Int)) := ⟨wk (A := k) (k := 1) (by omega) 1 rfl⟩
        obtain ⟨ad2, v2, hA2, e0, _, e2, hv2⟩ := (HPL.out.below HS.out.below).at_ k hk
        cases hA2
        have hpo := HLO.out _ (getD_mem hk)
        have hstep := memS_succ ls k hk
        obtain ⟨p, hp⟩ : ∃ p, ls.getD k z64 = p := ⟨_, rfl⟩
        rw [hp] at e0 hv2 hpo hstep
        have HPP := Aside0.mk hp
        obtain ⟨A2, c2, rfl, hc2, _⟩ := Kd.R_reads hv2
        have HV2 := Aside0.mk hv2
        have hst2 : memS ls (k + 1) = memStep (some ms) p := by rw [hstep, HS.out.is]
        have HST := Aside0.mk hst2
        obtain ⟨nm, hnm⟩ : ∃ x, p.f0 = x := ⟨_, rfl⟩
        have hsz := hpo.name
        rw [hnm] at e0 hsz
        have HNM := Aside0.mk hnm
        have HSZ := Aside0.mk hsz
        clear hp hpo hv2 hstep hst2 hc2 hln hnm
        obtain ⟨A9, c9, hu9, hc9, hC9⟩ := Kd.R_reads HS.out.row
        subst hu9
        have HC9 := Aside0.mk hC9
        clear hC9
        by_cases hem : nm = (⟨#[]⟩ : ByteArray)
        · subst hem
          obtain rfl : r = ([], [], 5) := HBAD.out (memS_stop _ (k + 1) (by rw [HST.out]; unfold memStep; simp only []; rw [if_pos (by rw [HNM.out]; exact trim_empty)]) hk)
          go_wp2_with fail
          refine bodyPost_ret (v := .tuple #[.slice none 0 0, .slice none 0 0, .int .i64 5]) (by simp [results, Tryd.results14, go_sem]) rfl ?_
          exact ⟨_, _, rfl, Kd.R_nil _ _ _ _ _, Kd.R_nil _ _ _ _ _, HBO.out⟩
        have hq0 : ¬ nm.toList = [] := fun h => hem (by rw [Lib.toList_data] at h; rw [← Lib.mk_data nm, h])
        have hq1 : nm.toList.isEmpty = false := by simpa using hq0
        have hq2 : (nm.toList == []) = false := by simpa using hq0
        obtain ⟨m, hm⟩ : ∃ m, nm.size = m + 1 := ⟨nm.size - 1, by have h0 : nm.size ≠ 0 := fun h => hem (by apply ba_ext; exact List.eq_nil_of_length_eq_zero (by rw [size_list]; exact h)); omega⟩
        have hmI : (nm.size : Int) - 1 = (m : Int) := by omega
        have hm0 : (0 : Int) ≤ (m : Int) := by omega
        have hm1 : (m : Int) < (nm.size : Int) := by omega
        have hm2 : m < nm.size := by omega
        have HMM := Aside0.mk hm
        obtain ⟨ch, hch⟩ : ∃ x, bt nm (m : Int) = x := ⟨_, rfl⟩
        have hbt : ∀ h : m < nm.size, ((nm[m]'h).toNat : Int) = ch := fun h => by rw [← hch]; exact bt_at nm (m : Int) h
        have HCH := Aside0.mk hch
        clear hem hm hch
        by_cases h47 : ch = 47
        · subst h47
          have hme : m ≤ nm.size := by omega
          obtain ⟨s, hs⟩ : ∃ x, nm.extract 0 m = x := ⟨_, rfl⟩
          have HTR : Aside0 (trimSfx nm = s ∧ ¬ trimSfx nm = nm) := ⟨by have h := trim_slash HMM.out HCH.out; rwa [hs] at h⟩
          have HSS : Aside0 (s.size ≤ 9223372036854775807) := ⟨by rw [← hs, ByteArray.size_extract]; have := HSZ.out; omega⟩
          obtain ⟨ok, hok⟩ : ∃ b, nameOk s = b := ⟨_, rfl⟩
          have HOK := Aside0.mk hok
          have NC := Aside0.mk (fun w => refname_calls s HSS.out w)
          simp only [hok] at NC
          clear hok
          go_wp2_with fail
          refine (NC.out _).mono ?_
          clear NC
          intro e w5 h5
          obtain ⟨h5, hb5⟩ := h5
          subst h5
          have HS5 := Aside0.mk (HS.out.to hb5)
          have HC5x := Aside0.mk (Kd.C_below HC9.out hb5)
          have HV5 := Aside0.mk (Kd.R_below HV2.out hb5)
          have HB5 : Aside0 (Below w.heap.size w w5) := ⟨HBO.out.trans (hb5.mono HBO.out.size)⟩
          replace e2 := pw_cell_below hb5 e2
          clear HS HC9 HV2 HBO hb5 e0 hbt
          simp only []
          cases ok with
          | false =>
            obtain rfl : r = ([], [], 5) := HBAD.out (memS_stop _ (k + 1) (by rw [HST.out]; unfold memStep; simp only []; rw [if_neg (by rw [HNM.out]; exact HTR.out.2), HNM.out, HTR.out.1, HOK.out, if_neg (by simp)]) hk)
            go_wp2_with fail
            refine bodyPost_ret (v := .tuple #[.slice none 0 0, .slice none 0 0, .int .i64 5]) (by simp [results, Tryd.results14, go_sem]) rfl ?_
            exact ⟨_, _, rfl, Kd.R_nil _ _ _ _ _, Kd.R_nil _ _ _ _ _, HB5.out⟩
          | true =>
            go_wp2_with fail
            clear hq0 hq1 hq2 hmI hm0 hm1 hm2 hme hs
            go_loopw [12] (fun v12 wr => ∃ j : Nat, v12 = .int .i64 j ∧ Aside0 (j ≤ ms.length) ∧ Aside0 (seenB ((ms.take j).map S39.f0) s = false) ∧ wr = w5) (fun v12 _ => ms.length - (intOf v12).toNat)
            case atStart => exact ⟨0, rfl, ⟨Nat.zero_le _⟩, ⟨rfl⟩, rfl⟩
            case round =>
              obtain ⟨j, rfl, HJ, HSJ, rfl⟩ := hrel
              have hml := memS_len _ _ _ HS5.out.is
              have hln := HLN.out
              by_cases hj : j < ms.length
              · have hjI : (j : Int) < (ms.length : Int) := by omega
                have HWJ : Aside0 (wrap64 ((j : Int) + 1) = ((j + 1 : Nat) : Int)) := ⟨wk (A := j) (k := 1) (by omega) 1 rfl⟩
                obtain ⟨ad3, A3, c3, hA3, f0, _, _, _⟩ := at_T39 HC5x.out (j : Int) (by omega) hjI
                cases hA3
                obtain ⟨on, hon⟩ : ∃ x, (rd_T39 ms (j : Int)).f0 = x := ⟨_, rfl⟩
                rw [hon, Int.toNat_natCast] at f0
                have HON : Aside0 ((ms.getD j z39).f0 = on) := ⟨by rw [← hon]; unfold rd_T39; rw [Int.toNat_natCast]⟩
                clear hon hml hln
                by_cases heq : on = s
                · have HEQ := Aside0.mk heq
                  subst heq
                  obtain rfl : r = ([], [], 5) := HBAD.out (memS_stop _ (k + 1) (by rw [HST.out]; unfold memStep; simp only []; rw [if_neg (by rw [HNM.out]; exact HTR.out.2), HNM.out, HTR.out.1, HOK.out, seen_at ms _ j hj HON.out, if_neg (by simp)]) hk)
                  go_wp2_with fail
                  refine bodyPost_ret (v := .tuple #[.slice none 0 0, .slice none 0 0, .int .i64 5]) (by simp [results, Tryd.results14, go_sem]) rfl ?_
                  exact ⟨_, _, rfl, Kd.R_nil _ _ _ _ _, Kd.R_nil _ _ _ _ _, HB5.out⟩
                have h1 := toList_ne2 heq
                have h2 : (on.toList == s.toList) = false := beq_eq_false_iff_ne.2 h1
                go_wp2_with fail
                refine ⟨⟨j + 1, by rw [HWJ.out], ⟨hj⟩, ⟨seen_take ms s j hj HSJ.out (by rw [HON.out]; exact heq)⟩, by first | rfl | trivial⟩, meas hj HWJ.out⟩
              have hjI : ¬ (j : Int) < (ms.length : Int) := by omega
              have HSF : Aside0 (seenB (ms.map S39.f0) s = false) := ⟨by have h := HSJ.out; rwa [show j = ms.length by have := HJ.out; omega, List.take_length] at h⟩
              clear HSJ HJ hml hln
              have hnew : memS ls (k + 1) = some (ms ++ [⟨s, p.f2⟩]) := by rw [HST.out]; unfold memStep; simp only []; rw [if_neg (by rw [HNM.out]; exact HTR.out.2), HNM.out, HTR.out.1, HOK.out, HSF.out, if_pos (by simp)]
              have HNW := Aside0.mk hnew
              clear hnew
              have HVX := Aside0.mk (Kd.R_apart' HV5.out (Kd.R_typed HS5.out.row) (by decide))
              go_wp2_with (((with_reducible refine gate_builtin (b := .append) (xs := #[.tmp 94, .tmp 102]) rfl ?_); at_builtin; apply id_stop))
              unfold Stop
              refine Kd.R_append k39 (w0 := w) w.heap.size rfl (.tmp 94) (.tmp 102) 22 39 (.agg #[.string ⟨#[]⟩, .slice none 0 0]) 40 rfl Tryd.underlying22 info39 rfl (by decide) (by omega) (.slice A9 ms.length c9) ms ⟨s, p.f2⟩ [.string s, .slice A2 p.f2.length c2] (fun _ => True) (fun k => True ∧ some k ≠ (Value.slice A9 ms.length c9).ownBlock) rfl rfl (k39_mkM _ _ _ ⟨s, p.f2⟩ HVX.out) (fun _ hk => hk) (fun _ _ => trivial) HS5.out.row HB5.out HB5.out.size (by have h1 := memS_len _ _ _ HS5.out.is; have h2 := HLN.out; omega) ?_
              intro v9 w9 ho hb hg hat
              have HRn := Aside0.mk ho
              have HGn := Aside0.mk hg
              have HAT := Aside0.mk hat
              clear ho hb hat hg
              go_wp2_with fail
              refine ⟨⟨k + 1, ms ++ [⟨s, p.f2⟩], by rw [HWI.out], ⟨hk⟩, ⟨Rd2.push HS5.out HNW.out HRn.out HGn.out HAT.out⟩⟩, meas hk HWI.out⟩
        have hb47 : (ch == 47) = false := by simpa using h47
        have hb48 : (ch != 47) = true := by simpa using h47
        obtain rfl : r = ([], [], 5) := HBAD.out (memS_stop _ (k + 1) (by rw [HST.out]; unfold memStep; simp only []; rw [if_pos (by rw [HNM.out]; exact trim_other HMM.out (by rw [HCH.out]; exact h47))]) hk)
        go_wp2_with fail
        refine bodyPost_ret (v := .tuple #[.slice none 0 0, .slice none 0 0, .int .i64 5]) (by simp [results, Tryd.results14, go_sem]) rfl ?_
        exact ⟨_, _, rfl, Kd.R_nil _ _ _ _ _, Kd.R_nil _ _ _ _ _, HBO.out⟩
      have hkI : ¬ (k : Int) < (ls.length : Int) := by omega
      have hkn : k = ls.length := by have := HK.out; omega
      have HMS : Aside0 (memS ls ls.length = some ms) := ⟨by have h := HS.out.is; rwa [hkn] at h⟩
      obtain ⟨A8, c8, hu8, _, _⟩ := Kd.R_reads HS.out.row
      subst hu8
      clear hkn HK
      obtain rfl : r = (ms, [], 0) := HGOOD.out ms HMS.out
      go_wp2_with fail
      refine bodyPost_ret (v := .tuple #[.slice A8 ms.length c8, .slice none 0 0, .int .i64 0]) (by simp [results, Tryd.results14, go_sem]) rfl ?_
      exact ⟨_, _, rfl, HS.out.row, Kd.R_nil _ _ _ _ _, HBO.out⟩
  have her1 : (er != 0) = true := by simpa using her
  have her2 : (er == 0) = false := by simpa using her
  obtain rfl : r = ([], [], er) := HRr.out.symm.trans (by unfold readS; rw [if_neg (by have := HL.out; omega), HPS.out]; exact if_neg her)
  go_wp2_with fail
  refine bodyPost_ret (v := .tuple #[.slice none 0 0, .slice none 0 0, .int .i64 er]) (by simp [results, Tryd.results14, go_sem]) rfl ?_
  exact ⟨_, _, rfl, Kd.R_nil _ _ _ _ _, Kd.R_nil _ _ _ _ _, HB3.out⟩
end Go.Proofs.YtdjmahmbofhnpaaDoor.Ar
