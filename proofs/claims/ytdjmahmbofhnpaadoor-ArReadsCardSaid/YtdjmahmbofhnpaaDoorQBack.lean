/- The law ArBack walked: what is put is read. -/
import Derived.Test.YtdjmahmbofhnpaaDoorQLiv
namespace Go.Proofs.YtdjmahmbofhnpaaDoor.Ar
open Go.RowKit Go.Maps Go.WideMaps Go.Proofs.YtdjmahmbofhnpaaDoorW.PrintWords Go.Proofs.YtdjmahmbofhnpaaDoorW.PrintLast Go.Proofs.YtdjmahmbofhnpaaDoor.QAr
set_option linter.unusedVariables false
set_option linter.unusedSimpArgs false
theorem mM_mem {l : List S39} {m : S39} (h : m ∈ l) : m.f1.length ≤ mM l := by
  obtain ⟨k, hk, rfl⟩ := List.getElem_of_mem h
  have := mem_mM l k hk
  rw [List.getD_eq_getElem?_getD, List.getElem?_eq_getElem hk] at this
  have h2 : (l[k]).f0.size + (l[k]).f1.length + 200 ≤ mM l := this
  omega
set_option maxRecDepth 100000 in
set_option maxHeartbeats 16000000 in
theorem back_walk (A : Option Addr) (c : Nat) (l : List S39) (hc : l.length ≤ c) (A1 : Option Addr) (c1 : Nat) (x : List S43) (hc1 : x.length ≤ c1) (hm : mM l ≤ 1099511627776) (hx : mX x ≤ 1099511627776) (hb : ∀ m ∈ l, Bytes8 m.f1) (w : World) (hv : Vars w) (hr : Kd.C k39 w A l.length l) (hr1 : Kd.C k43 w A1 x.length x) :
    Calls Tryd.prog 5 #[.slice A l.length c, .slice A1 x.length c1] w fun e w' => e = .returned (.bool true) ∧ Below w.heap.size w w' := by
  have HV := Aside0.mk hv
  have HR := Aside0.mk hr
  have HR1 := Aside0.mk hr1
  have HC := Aside0.mk hc
  have HC1 := Aside0.mk hc1
  have HM := Aside0.mk hm
  have HX := Aside0.mk hx
  have HB := Aside0.mk hb
  clear hv hr hr1 hc hc1 hm hx hb
  go_enter Tryd.func5, Tryd.ntmps5
  go_wp2_with fail
  refine (put_calls A c l HC.out A1 c1 x HC1.out HM.out HX.out w HV.out HR.out HR1.out).mono ?_
  intro e w2 h2
  obtain ⟨v2, h2, ho2, hb2⟩ := h2
  subst h2
  have HB2 := Aside0.mk hb2
  have he1 := putS_err l x
  have hB8 := put_bytes l x HB.out
  have hrd := read_put l x
  obtain ⟨⟨B, er⟩, hB⟩ : ∃ B, putS l x = B := ⟨_, rfl⟩
  rw [hB] at ho2 hB8 hrd he1 ⊢
  simp only [] at ho2 hB8 hrd he1 ⊢
  obtain ⟨A2, c2, rfl, hc2, hC2⟩ := ho2.reads
  have HC2 := Aside0.mk hC2
  have HCC := Aside0.mk hc2
  have HB8 := Aside0.mk hB8
  have HRD := Aside0.mk hrd
  have HE1 := Aside0.mk he1
  clear hB ho2 hB8 hrd hC2 hc2 hb2 he1
  by_cases her : er = 0
  · subst her
    have HRQ := Aside0.mk (HRD.out rfl)
    clear HRD HE1
    go_wp2_with fail
    refine (read_calls A2 c2 B HCC.out HB8.out w2 (HV.out.below HB2.out) HC2.out).mono ?_
    intro e w3 h3
    obtain ⟨v4, v5, h3, hr4, hr5, hb3⟩ := h3
    subst h3
    rw [HRQ.out] at hr4 hr5 ⊢
    simp only [] at hr4 hr5 ⊢
    obtain ⟨A4, c4, rfl, hc4, hC4⟩ := Kd.R_reads hr4
    obtain ⟨A5, c5, rfl, hc5, hC5⟩ := Kd.R_reads hr5
    have HB3 : Aside0 (Below w.heap.size w w3) := ⟨HB2.out.trans (hb3.mono HB2.out.size)⟩
    have HC4 := Aside0.mk hC4
    have HC5 := Aside0.mk hC5
    have HCC4 := Aside0.mk hc4
    have HCC5 := Aside0.mk hc5
    clear hr4 hr5 hb3 hC4 hC5 hc4 hc5 HRQ HB8 HCC HC2 HB2
    obtain ⟨K, hK⟩ := members_self l (by have := len_mM l; have := HM.out; omega) (fun m hm => by have := mM_mem hm; have := HM.out; omega)
    obtain ⟨K2, hK2⟩ := indexes_self x (by have := len_mX x; have := HX.out; omega)
    have HK := Aside0.mk hK
    have HK2 := Aside0.mk hK2
    clear hK hK2
    go_wp2_with fail
    refine (bulwarklaw10_members.calls K A c l A4 c4 l true _ (Kd.C_below HR.out HB3.out) HC.out HC4.out HCC4.out HK.out).mono ?_
    intro e w4 h4
    obtain ⟨h4, hd4⟩ := h4
    subst h4
    have hb4 := hd4.below
    have HB4 : Aside0 (Below w.heap.size w w4) := ⟨HB3.out.trans (hb4.mono HB3.out.size)⟩
    have HC54 := Aside0.mk (Kd.C_below HC5.out hb4)
    clear hd4 hb4 HB3 HC5
    simp only []
    go_wp2_with fail
    refine (bulwarklaw10_indexes.calls K2 A1 c1 x A5 c5 x true _ (Kd.C_below HR1.out HB4.out) HC1.out HC54.out HCC5.out HK2.out).mono ?_
    intro e w5 h5
    obtain ⟨h5, hd5⟩ := h5
    subst h5
    have hb5 := hd5.below
    have HB5 : Aside0 (Below w.heap.size w w5) := ⟨HB4.out.trans (hb5.mono HB4.out.size)⟩
    clear hd5 hb5 HB4 HC54
    simp only []
    go_wp2_with fail
    refine (lives_calls _ (HV.out.below HB5.out)).mono ?_
    intro e w6 h6
    obtain ⟨h6, hb6⟩ := h6
    subst h6
    have HB6 : Aside0 (Below w.heap.size w w6) := ⟨HB5.out.trans (hb6.mono HB5.out.size)⟩
    clear hb6 HB5
    simp only []
    go_wp2_with fail
    go_ret
    exact ⟨rfl, HB6.out⟩
  · have he2 := HE1.out her
    subst he2
    have her1 : (er != 0) = true := by simpa using her
    have her2 : (er == 0) = false := by simpa using her
    have hl0 : ([] : List Int).length = 0 := rfl
    go_wp2_with fail
    refine (lives_calls _ (HV.out.below HB2.out)).mono ?_
    intro e w6 h6
    obtain ⟨h6, hb6⟩ := h6
    subst h6
    have HB6 : Aside0 (Below w.heap.size w w6) := ⟨HB2.out.trans (hb6.mono HB2.out.size)⟩
    clear hb6
    simp only []
    go_wp2_with fail
    go_ret
    exact ⟨rfl, HB6.out⟩
end Go.Proofs.YtdjmahmbofhnpaaDoor.Ar
