/- The law ArReads walked: both readers agree on any bytes, and what is handed in stays. -/
import Derived.Test.YtdjmahmbofhnpaaDoorQOnce
import Derived.Test.YtdjmahmbofhnpaaDoorQArZ
import Derived.Test.YtdjmahmbofhnpaaDoorQArWd
namespace Go.Proofs.YtdjmahmbofhnpaaDoor.Ar
open Go.RowKit Go.Maps Go.WideMaps Go.Proofs.YtdjmahmbofhnpaaDoorW.PrintWords Go.Proofs.YtdjmahmbofhnpaaDoorW.PrintLast Go.Proofs.YtdjmahmbofhnpaaDoor.QAr
set_option linter.unusedVariables false
set_option linter.unusedSimpArgs false
set_option maxRecDepth 100000 in
set_option maxHeartbeats 16000000 in
theorem left_calls (K : Nat) (A : Option Addr) (co : Nat) (b : List Int) (hl : b.length ≤ 200000000000000) (hco : b.length + 3 ≤ co) (hw : ∀ i : Int, ((b.length : Nat) : Int) ≤ i → i < ((b.length + 3 : Nat) : Int) → Go.Proofs.YtdjmahmbofhnpaaDoorW.PrintWords.rd (b ++ [7, 7, 7]) i = 7) (B : Option Addr) (c : Nat) (hc : b.length ≤ c) (w : World) (hK : bulwarkref00_Same.f K b b = some true) (hr1 : (Kd.int .u8).C w A (b.length + 3) (b ++ [7, 7, 7])) (hr2 : (Kd.int .u8).C w A b.length b) (hr : (Kd.int .u8).C w B b.length b) :
    Calls Tryd.prog 17 #[.slice A b.length co, .slice B b.length c] w fun e w' => e = .returned (.bool true) ∧ Below w.heap.size w w' := by
  obtain ⟨N, hN⟩ : ∃ N, N = b.length + 3 := ⟨_, rfl⟩
  rw [← hN] at hco hw hr1
  have HR1 := Aside0.mk hr1
  have HR2 := Aside0.mk hr2
  have HR := Aside0.mk hr
  have HC := Aside0.mk hc
  have HCO := Aside0.mk hco
  have HK := Aside0.mk hK
  have HN := Aside0.mk hN
  have HW := Aside0.mk hw
  have w3 : IntKind.i64.wrap ((b.length : Int) + 3) = ((N : Nat) : Int) := by rw [i64_w]; unfold wrap64; omega
  have l3 : decide ((co : Int) < ((N : Nat) : Int)) = false := decide_eq_false (by omega)
  have l4 : decide (co < N) = false := decide_eq_false (by omega)
  obtain ⟨i5, hi5, _, hsz5, _⟩ := info_parts info5
  have hcut := cut_full (P := Tryd.prog) 24 5 .i64 .i64 Tryd.underlying24 hi5 A b.length co ((N : Nat) : Int) ((N : Nat) : Int) (by omega) (by omega) (by omega)
  rw [Int.toNat_natCast] at hcut
  clear hr1 hr2 hr hc hK hi5 hsz5 hco hN hw
  go_enter Tryd.func17, Tryd.ntmps17
  go_wp2_with fail
  refine (bulwarkref00_Same.calls K A co b B c b true _ HR2.out (by have := HCO.out; have := HN.out; omega) HR.out HC.out HK.out).mono ?_
  intro e w2 h2
  obtain ⟨h2, hd2⟩ := h2
  subst h2
  have HB2 := Aside0.mk hd2.below
  clear hd2
  simp only []
  go_wp2_with fail
  go_loopg [6] 3 (fun kq v6 w' => ∃ j : Nat, v6 = .int .i64 ((j : Nat) : Int) ∧ Aside0 (b.length ≤ j ∧ j + kq = N) ∧ Aside0 (Below w.heap.size w w'))
  case atStart => exact ⟨b.length, rfl, ⟨by have := HN.out; omega⟩, HB2⟩
  case round =>
    obtain ⟨j, rfl, HJ, HB⟩ := hrel
    by_cases hj : j < N
    · have d1 : decide (j < N) = true := decide_eq_true hj
      have d2 : decide ((j : Int) < (N : Int)) = true := decide_eq_true (by omega)
      have p1 : 0 ≤ ((j : Nat) : Int) := by omega
      have q1 : ((j : Nat) : Int) < ((N : Nat) : Int) := by omega
      obtain ⟨ad1, e1, hx1⟩ := Kd.at_int HR1.out ((j : Nat) : Int) p1 q1
      cases e1
      rw [HW.out _ (by have := HJ.out; omega) q1, Int.toNat_natCast] at hx1
      replace hx1 := (HB.out.cell (World.block_lt_of_cell? w _ hx1)).trans hx1
      have wj : IntKind.i64.wrap (((j : Nat) : Int) + 1) = ((j + 1 : Nat) : Int) := by rw [i64_w]; unfold wrap64; have := HJ.out; have := HN.out; omega
      replace p1 := eq_true p1
      replace q1 := eq_true q1
      go_wp2_with fail
      go_roundg (gk - 1)
      case measure => have := HJ.out; omega
      case rel => exact ⟨j + 1, rfl, ⟨by have := HJ.out; omega⟩, HB⟩
    · have d1 : decide (j < N) = false := decide_eq_false hj
      have d2 : decide ((j : Int) < (N : Int)) = false := decide_eq_false (by omega)
      go_wp2_with fail
      go_ret
      exact ⟨rfl, HB.out⟩
theorem rd_seven (b : List Int) (i : Int) (h1 : ((b.length : Nat) : Int) ≤ i) (h2 : i < ((b.length + 3 : Nat) : Int)) : Go.Proofs.YtdjmahmbofhnpaaDoorW.PrintWords.rd (b ++ [7, 7, 7]) i = 7 := by
  obtain ⟨j, rfl⟩ : ∃ j : Nat, i = (j : Int) := ⟨i.toNat, by omega⟩
  obtain ⟨d, rfl⟩ : ∃ d, j = b.length + d := ⟨j - b.length, by omega⟩
  have hd : d = 0 ∨ d = 1 ∨ d = 2 := by omega
  unfold Go.Proofs.YtdjmahmbofhnpaaDoorW.PrintWords.rd
  rw [Int.toNat_natCast]
  rcases hd with rfl | rfl | rfl <;> simp [List.getElem?_append]
set_option maxRecDepth 100000 in
set_option maxHeartbeats 16000000 in
theorem reads_walk (A : Option Addr) (c : Nat) (b : List Int) (hc : b.length ≤ c) (hl : b.length ≤ 200000000000000) (hb8 : Bytes8 b) (w : World) (hv : Vars w) (hr : (Kd.int .u8).C w A b.length b) :
    Calls Tryd.prog 4 #[.slice A b.length c] w fun e w' => e = .returned (.bool true) ∧ Below w.heap.size w w' := by
  have HV := Aside0.mk hv
  have HR := Aside0.mk hr
  have HC := Aside0.mk hc
  have HL := Aside0.mk hl
  have HB8 := Aside0.mk hb8
  clear hv hr hc hl hb8
  go_enter Tryd.func4, Tryd.ntmps4
  go_wp2_with fail
  refine (wide_calls A c b HC.out HL.out w HR.out).mono ?_
  intro e w2 h2
  obtain ⟨A2, co, h2, hco, hR, hb2⟩ := h2
  subst h2
  have HB2 := Aside0.mk hb2
  have HCO := Aside0.mk hco
  have hlen : (b ++ [7, 7, 7]).length = b.length + 3 := by rw [List.length_append]; rfl
  have hfull := (Kd.R_reads' hR).2.2
  have hcut := Kd.C_take (m := b.length) hfull (by rw [hlen]; omega)
  rw [List.take_left] at hcut
  rw [hlen] at hfull
  have HF := Aside0.mk hfull
  have HT := Aside0.mk hcut
  clear hco hR hb2 hlen hfull hcut
  simp only []
  go_wp2_with fail
  refine (read_calls A2 co b (by have := HCO.out; omega) HB8.out w2 (HV.out.below HB2.out) HT.out).mono ?_
  intro e w3 h3
  obtain ⟨v3, v4, h3, hr3, hr4, hb3⟩ := h3
  subst h3
  have hsz := readS_size b HB8.out
  obtain ⟨⟨l, x, er⟩, hQ⟩ : ∃ B, readS b = B := ⟨_, rfl⟩
  have HQ := Aside0.mk hQ
  rw [hQ] at hr3 hr4 hsz ⊢
  simp only [] at hr3 hr4 hsz ⊢
  have HS := Aside0.mk hsz
  obtain ⟨A3, c3, rfl, hc3, hC3⟩ := Kd.R_reads hr3
  obtain ⟨A4, c4, rfl, hc4, hC4⟩ := Kd.R_reads hr4
  have HB3 : Aside0 (Below w.heap.size w w3) := ⟨HB2.out.trans (hb3.mono HB2.out.size)⟩
  have HF3 := Aside0.mk (Kd.C_below HF.out hb3)
  have HT3 := Aside0.mk (Kd.C_below HT.out hb3)
  have HC3 := Aside0.mk hC3
  have HC4 := Aside0.mk hC4
  have HL3 := Aside0.mk hc3
  have HL4 := Aside0.mk hc4
  clear hQ hsz hr3 hr4 hC3 hC4 hc3 hc4 hb3 HF HT HB2
  go_wp2_with fail
  refine (refread_calls A c b HC.out HB8.out w3 (Kd.C_below HR.out HB3.out)).mono ?_
  intro e w4 h4
  obtain ⟨v5, v6, h4, hr5, hr6, hb4⟩ := h4
  subst h4
  rw [HQ.out] at hr5 hr6 ⊢
  simp only [] at hr5 hr6 ⊢
  obtain ⟨A5, c5, rfl, hc5, hC5⟩ := Kd.R_reads hr5
  obtain ⟨A6, c6, rfl, hc6, hC6⟩ := Kd.R_reads hr6
  have HB4 : Aside0 (Below w.heap.size w w4) := ⟨HB3.out.trans (hb4.mono HB3.out.size)⟩
  have HF4 := Aside0.mk (Kd.C_below HF3.out hb4)
  have HT4 := Aside0.mk (Kd.C_below HT3.out hb4)
  have HC34 := Aside0.mk (Kd.C_below HC3.out hb4)
  have HC44 := Aside0.mk (Kd.C_below HC4.out hb4)
  have HC5 := Aside0.mk hC5
  have HC6 := Aside0.mk hC6
  have HL5 := Aside0.mk hc5
  have HL6 := Aside0.mk hc6
  clear hr5 hr6 hC5 hC6 hc5 hc6 hb4 HF3 HT3 HC3 HC4 HB3 HQ
  obtain ⟨K, hK⟩ := members_self l (by have := len_mM l; have := HS.out.1; omega) (fun m hm => by have := mM_mem hm; have := HS.out.1; omega)
  obtain ⟨K2, hK2⟩ := indexes_self x (by have := len_mX x; have := HS.out.2.1; omega)
  obtain ⟨K3, hK3⟩ := same_self b (by have := HL.out; omega)
  have HK := Aside0.mk hK
  have HK2 := Aside0.mk hK2
  have HK3 := Aside0.mk hK3
  clear hK hK2 hK3
  have hee : (er == er) = true := by simp
  have hed : decide (er = er) = true := by simp
  go_wp2_with fail
  refine (bulwarklaw10_members.calls K A3 c3 l A5 c5 l true _ HC34.out HL3.out HC5.out HL5.out HK.out).mono ?_
  intro e w5 h5
  obtain ⟨h5, hd5⟩ := h5
  subst h5
  have hb5 := hd5.below
  have HB5 : Aside0 (Below w.heap.size w w5) := ⟨HB4.out.trans (hb5.mono HB4.out.size)⟩
  have HF5 := Aside0.mk (Kd.C_below HF4.out hb5)
  have HT5 := Aside0.mk (Kd.C_below HT4.out hb5)
  have HC45 := Aside0.mk (Kd.C_below HC44.out hb5)
  have HC65 := Aside0.mk (Kd.C_below HC6.out hb5)
  clear hd5 hb5 HF4 HT4 HC44 HC6 HB4 HC34 HC5
  simp only []
  go_wp2_with fail
  refine (bulwarklaw10_indexes.calls K2 A4 c4 x A6 c6 x true _ HC45.out HL4.out HC65.out HL6.out HK2.out).mono ?_
  intro e w6 h6
  obtain ⟨h6, hd6⟩ := h6
  subst h6
  have hb6 := hd6.below
  have HB6 : Aside0 (Below w.heap.size w w6) := ⟨HB5.out.trans (hb6.mono HB5.out.size)⟩
  have HF6 := Aside0.mk (Kd.C_below HF5.out hb6)
  have HT6 := Aside0.mk (Kd.C_below HT5.out hb6)
  clear hd6 hb6 HF5 HT5 HC45 HC65 HB5
  simp only []
  go_wp2_with fail
  refine (left_calls K3 A2 co b HL.out HCO.out (rd_seven b) A c HC.out _ HK3.out HF6.out HT6.out (Kd.C_below HR.out HB6.out)).mono ?_
  intro e w7 h7
  obtain ⟨h7, hb7⟩ := h7
  subst h7
  have HB7 : Aside0 (Below w.heap.size w w7) := ⟨HB6.out.trans (hb7.mono HB6.out.size)⟩
  clear hb7 HB6 HF6 HT6
  simp only []
  go_wp2_with fail
  refine (lives_calls _ (HV.out.below HB7.out)).mono ?_
  intro e w8 h8
  obtain ⟨h8, hb8⟩ := h8
  subst h8
  have HB8' : Aside0 (Below w.heap.size w w8) := ⟨HB7.out.trans (hb8.mono HB7.out.size)⟩
  clear hb8
  simp only []
  go_wp2_with fail
  go_ret
  exact ⟨rfl, HB8'.out⟩
end Go.Proofs.YtdjmahmbofhnpaaDoor.Ar
