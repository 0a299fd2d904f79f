/- The law ArPuts walked: the bytes of members and an index are the document's. -/
import Derived.Test.YtdjmahmbofhnpaaDoorQLivP
import Derived.Test.YtdjmahmbofhnpaaDoorQArQ
import Derived.Test.YtdjmahmbofhnpaaDoorQArx9
namespace Go.Proofs.YtdjmahmbofhnpaaDoor.Ar
open Go.RowKit Go.Maps Go.WideMaps Go.Proofs.YtdjmahmbofhnpaaDoorW.PrintWords Go.Proofs.YtdjmahmbofhnpaaDoorW.PrintLast Go.Proofs.YtdjmahmbofhnpaaDoor.QAr
set_option linter.unusedVariables false
set_option linter.unusedSimpArgs false
theorem same_self (l : List Int) (hl : l.length ≤ 9000000000000000000) : ∃ K, bulwarkref00_Same.f K l l = some true := by
  have key : ∀ d i : Nat, i + d = l.length → ∃ K, bulwarkref00_Same.l0 K l l (i : Int) = some true := by
    intro d
    induction d with
    | zero => intro i hi; exact ⟨1, by simp only [bulwarkref00_Same.l0]; rw [if_neg (by omega)]⟩
    | succ d ih =>
      intro i hi
      obtain ⟨K, hK⟩ := ih (i + 1) (by omega)
      refine ⟨K + 1, ?_⟩
      simp only [bulwarkref00_Same.l0]
      rw [if_pos (by omega), if_pos (by omega), if_pos (by omega), show wrap64 ((i : Int) + 1) = ((i + 1 : Nat) : Int) from w64n (j := 1) rfl (by omega), hK]
      rfl
  obtain ⟨K, hK⟩ := key l.length 0 (by omega)
  exact ⟨K, by unfold bulwarkref00_Same.f; rw [if_pos rfl]; exact hK⟩
theorem putS_len (l : List S39) (x : List S43) (hm : mM l ≤ 1099511627776) (hx : mX x ≤ 1099511627776) : (putS l x).1.length ≤ 9000000000000000000 := by
  unfold putS
  split
  · exact Nat.zero_le _
  · split
    · exact Nat.zero_le _
    · split
      · exact Nat.zero_le _
      · have h1 := fold_len l (startB l x) (by omega) l.length (Nat.le_refl _)
        rw [List.take_length] at h1
        have h2 : (startB l x).length ≤ 10000000000000 := by
          have h3 := nmS_size x
          have h4 := len_mX x
          unfold startB
          split
          · decide
          · have h5 := headS_size (⟨#[47]⟩ : ByteArray) (4 + 4 * x.length + (namesB x).length) (by unfold namesB; rw [tb_len]; omega)
            have h6 := idxB_len l x x.length (Nat.le_refl _)
            unfold idxB at h6
            rw [List.take_length] at h6
            unfold indexB namesB
            simp only [List.length_append, tb_len] at *
            have h7 : ∀ n, (bigB n).length = 4 := fun _ => rfl
            rw [h6, h7]
            have h8 : magicB.length = 8 := rfl
            have h9 : (⟨#[47]⟩ : ByteArray).size = 1 := rfl
            unfold namesB at h5
            rw [tb_len] at h5
            omega
        show (l.foldl addM (startB l x)).length ≤ _
        omega
set_option maxRecDepth 100000 in
set_option maxHeartbeats 16000000 in
theorem puts_walk (A : Option Addr) (c : Nat) (l : List S39) (hc : l.length ≤ c) (A1 : Option Addr) (c1 : Nat) (x : List S43) (hc1 : x.length ≤ c1) (hm : mM l ≤ 1099511627776) (hx : mX x ≤ 1099511627776) (w : World) (hv : Vars w) (hr : Kd.C k39 w A l.length l) (hr1 : Kd.C k43 w A1 x.length x) :
    Calls Tryd.prog 3 #[.slice A l.length c, .slice A1 x.length c1] w fun e w' => e = .returned (.bool true) ∧ Below w.heap.size w w' := by
  have HV := Aside0.mk hv
  have HR := Aside0.mk hr
  have HR1 := Aside0.mk hr1
  have HC := Aside0.mk hc
  have HC1 := Aside0.mk hc1
  have HM := Aside0.mk hm
  have HX := Aside0.mk hx
  clear hv hr hr1 hc hc1 hm hx
  go_enter Tryd.func3, Tryd.ntmps3
  go_wp2_with fail
  refine (put_calls A c l HC.out A1 c1 x HC1.out HM.out HX.out w HV.out HR.out HR1.out).mono ?_
  intro e w2 h2
  obtain ⟨v2, h2, ho2, hb2⟩ := h2
  subst h2
  have HB2 := Aside0.mk hb2
  have hln := putS_len l x HM.out HX.out
  obtain ⟨⟨B, er⟩, hB⟩ : ∃ B, putS l x = B := ⟨_, rfl⟩
  have HPS := Aside0.mk hB
  rw [hB] at ho2 hln ⊢
  simp only [] at ho2 hln ⊢
  obtain ⟨A2, c2, rfl, hc2, hC2⟩ := ho2.reads
  have HC2 := Aside0.mk hC2
  have HCC := Aside0.mk hc2
  have HLN := Aside0.mk hln
  clear hB ho2 hC2 hc2 hb2 hln
  go_wp2_with fail
  refine (rput_calls A c l HC.out A1 c1 x HC1.out HM.out HX.out w2 (Kd.C_below HR.out HB2.out) (Kd.C_below HR1.out HB2.out)).mono ?_
  intro e w3 h3
  obtain ⟨v3, h3, ho3, hb3⟩ := h3
  subst h3
  rw [HPS.out] at ho3 ⊢
  simp only [] at ho3 ⊢
  obtain ⟨A3, c3, rfl, hc3, hC3⟩ := ho3
  have HB3 : Aside0 (Below w.heap.size w w3) := ⟨HB2.out.trans (hb3.mono HB2.out.size)⟩
  have HC23 := Aside0.mk (Kd.C_below HC2.out hb3)
  have HC3 := Aside0.mk hC3
  have HCC3 := Aside0.mk hc3
  clear hb3 hC3 hc3 HC2 HB2 HPS
  obtain ⟨K, hK⟩ := same_self B HLN.out
  have HK := Aside0.mk hK
  clear hK
  go_wp2_with fail
  refine (bulwarkref00_Same.calls K A2 c2 B A3 c3 B true _ HC23.out HCC.out HC3.out HCC3.out HK.out).mono ?_
  intro e w4 h4
  obtain ⟨h4, hd4⟩ := h4
  subst h4
  have hb4 := hd4.below
  have HB4 : Aside0 (Below w.heap.size w w4) := ⟨HB3.out.trans (hb4.mono HB3.out.size)⟩
  clear hd4 hb4 HB3 HC23 HC3
  simp only []
  go_wp2_with fail
  refine (lives_calls _ (HV.out.below HB4.out)).mono ?_
  intro e w6 h6
  obtain ⟨h6, hb6⟩ := h6
  subst h6
  have HB6 : Aside0 (Below w.heap.size w w6) := ⟨HB4.out.trans (hb6.mono HB4.out.size)⟩
  clear hb6 HB4
  simp only []
  go_wp2_with fail
  go_ret
  exact ⟨rfl, HB6.out⟩
end Go.Proofs.YtdjmahmbofhnpaaDoor.Ar
