/- The law's own check: lives answers true. -/
import Derived.Test.YtdjmahmbofhnpaaDoorQArURF
import Derived.Test.YtdjmahmbofhnpaaDoorQArVF
namespace Go.Proofs.YtdjmahmbofhnpaaDoor.Ar
open Go.RowKit Go.Maps Go.WideMaps Go.Proofs.YtdjmahmbofhnpaaDoorW.PrintWords Go.Proofs.YtdjmahmbofhnpaaDoorW.PrintLast Go.Proofs.YtdjmahmbofhnpaaDoor.QAr
set_option linter.unusedVariables false
set_option linter.unusedSimpArgs false
def aS : ByteArray := ⟨#[97]⟩
def fS : ByteArray := ⟨#[102]⟩
def L1 : List S39 := [⟨aS, [7]⟩]
def X1 : List S43 := [⟨fS, 0⟩]
def L2 : List S39 := [⟨⟨#[97, 47]⟩, []⟩]
theorem put1 : (putS L1 X1).2 = 0 := by kernel_rfl
theorem put2 : putS L2 [] = ([], 2) := by kernel_rfl
theorem read0 : readS [] = ([], [], 4) := by kernel_rfl
theorem rowLit {α : Type} {d : Kd α} {e : Nat} (W : World) (xs : List α) (inner : List Value) (hr : Reps (d.K W) d.sz xs inner) (hm : xs.length ≤ 9223372036854775807) : Kd.C d (W.alloc (.cells inner.toArray e)) (some ⟨W.heap.size, 0, none⟩) xs.length xs := by
  obtain ⟨A, c, h1, h2, h3⟩ := OwnRow.reads (OwnRow.lit (e := e) W 0 hr (Nat.zero_le _) hm)
  injection h1 with e1 e2 e3
  subst e1
  exact h3.imp_ (Below.refl _ _) (fun p c hp => d.K_below (below_alloc (Below.refl _ _) _) hp)
theorem lit_world (w : World) : ∃ wa, wa = ((w.alloc (.cells #[.int .u8 7] 5)).alloc (.cells #[.string ⟨#[97]⟩, .slice (some ⟨w.heap.size, 0, none⟩) 1 1] 39)).alloc (.cells #[.string ⟨#[102]⟩, .int .i64 0] 43) ∧ Below w.heap.size w wa ∧
    Kd.C k39 wa (some ⟨w.heap.size + 1, 0, none⟩) L1.length L1 ∧ Kd.C k43 wa (some ⟨w.heap.size + 1 + 1, 0, none⟩) X1.length X1 := by
  have h0 := rowLit (d := Kd.int .u8) (e := 5) w [7] [.int .u8 7] (Reps.one rfl (Reps.none _ _)) (by decide)
  have h1 := rowLit (d := k39) (e := 39) (w.alloc (.cells #[.int .u8 7] 5)) L1 [.string ⟨#[97]⟩, .slice (some ⟨w.heap.size, 0, none⟩) 1 1] (Reps.c2 (k39_mk _ ⟨aS, [7]⟩ (Nat.le_refl _) h0) (Reps.none _ _)) (by decide)
  have h2 := rowLit (d := k43) (e := 43) ((w.alloc (.cells #[.int .u8 7] 5)).alloc (.cells #[.string ⟨#[97]⟩, .slice (some ⟨w.heap.size, 0, none⟩) 1 1] 39)) X1 [.string ⟨#[102]⟩, .int .i64 0] (Reps.c2 (k43_mk _ ⟨fS, 0⟩) (Reps.none _ _)) (by decide)
  refine ⟨_, rfl, (((Below.refl _ _).alloc (Nat.le_refl _) _).alloc (by simp) _).alloc (by simp; omega) _, ?_, ?_⟩
  · have h3 := Kd.C_below h1 (below_alloc (Below.refl _ _) (.cells #[.string ⟨#[102]⟩, .int .i64 0] 43))
    simpa using h3
  · simpa using h2
theorem lit_world2 (w : World) : ∃ wa, wa = w.alloc (.cells #[.string ⟨#[97, 47]⟩, .slice none 0 0] 39) ∧ Below w.heap.size w wa ∧ Kd.C k39 wa (some ⟨w.heap.size, 0, none⟩) L2.length L2 := by
  have h1 := rowLit (d := k39) (e := 39) w L2 [.string ⟨#[97, 47]⟩, .slice none 0 0] (Reps.c2 (k39_mk _ ⟨⟨#[97, 47]⟩, []⟩ (Nat.le_refl _) (Kd.C_nil _ _)) (Reps.none _ _)) (by decide)
  exact ⟨_, rfl, (Below.refl _ _).alloc (Nat.le_refl _) _, h1⟩
theorem bytes7 : ∀ m ∈ L1, Bytes8 m.f1 := by
  intro m hm x hx
  rw [List.mem_singleton.1 hm] at hx
  rw [List.mem_singleton.1 hx]
  omega
theorem b2 : Bytes8 ([] : List Int) := fun x hx => by cases hx
set_option maxRecDepth 100000 in
set_option maxHeartbeats 16000000 in
theorem lives_calls (w : World) (hv : Vars w) : Calls Tryd.prog 11 #[] w fun e w' => e = .returned (.bool true) ∧ Below w.heap.size w w' := by
  have HV := Aside0.mk hv
  clear hv
  go_enter Tryd.func11, Tryd.ntmps11
  go_wp2_with fail
  obtain ⟨wa, hwa, hba, hl, hx⟩ := lit_world w
  rw [← hwa]
  have HBA := Aside0.mk hba
  have HL1 := Aside0.mk hl
  have HX1 := Aside0.mk hx
  have hsa : w.heap.size + 1 + 1 < wa.heap.size := by rw [hwa]; simp
  clear hwa hba hl hx
  have hmM : mM L1 ≤ 1099511627776 := by decide
  have hmX : mX X1 ≤ 1099511627776 := by decide
  refine (put_calls (some ⟨w.heap.size + 1, 0, none⟩) 1 L1 (Nat.le_refl _) (some ⟨w.heap.size + 1 + 1, 0, none⟩) 1 X1 (Nat.le_refl _) hmM hmX wa (HV.out.below HBA.out) HL1.out HX1.out).mono ?_
  clear hmM hmX
  intro e w2 h2
  obtain ⟨v2, h2, ho2, hb2⟩ := h2
  subst h2
  have hB8 := put_bytes L1 X1 bytes7
  have hrd := read_put L1 X1 put1
  rw [put1]
  obtain ⟨B, hB⟩ : ∃ B, (putS L1 X1).1 = B := ⟨_, rfl⟩
  rw [hB] at ho2 hB8 hrd
  obtain ⟨A2, c2, rfl, hc2, hC2⟩ := ho2.reads
  have HB2 : Aside0 (Below w.heap.size w w2) := ⟨HBA.out.trans (hb2.mono HBA.out.size)⟩
  have HL2 := Aside0.mk (Kd.C_below HL1.out hb2)
  have HC2 := Aside0.mk hC2
  have HCC := Aside0.mk hc2
  have HB8 := Aside0.mk hB8
  have HRD := Aside0.mk hrd
  clear hB ho2 hB8 hrd hC2 hc2 hb2 HL1 HX1 HBA hsa
  simp only []
  go_wp2_with fail
  refine (read_calls A2 c2 B HCC.out HB8.out w2 (HV.out.below HB2.out) HC2.out).mono ?_
  intro e w3 h3
  obtain ⟨v4, v5, h3, hr4, hr5, hb3⟩ := h3
  subst h3
  rw [HRD.out] at hr4 hr5 ⊢
  simp only [] at hr4 hr5 ⊢
  obtain ⟨A4, c4, rfl, hc4, hC4⟩ := Kd.R_reads hr4
  obtain ⟨A5, c5, rfl, hc5, hC5⟩ := Kd.R_reads hr5
  have HB3 : Aside0 (Below w.heap.size w w3) := ⟨HB2.out.trans (hb3.mono HB2.out.size)⟩
  have HL3 := Aside0.mk (Kd.C_below HL2.out hb3)
  have HC4 := Aside0.mk hC4
  have HC5 := Aside0.mk hC5
  have HCC4 := Aside0.mk hc4
  clear hr4 hr5 hb3 hC4 hC5 hc4 hc5 HRD HB8 HCC HC2 HL2 HB2
  go_wp2_with fail
  obtain ⟨wb, hwb, hbb, hl2⟩ := lit_world2 w3
  rw [← hwb]
  have HBB : Aside0 (Below w.heap.size w wb) := ⟨HB3.out.trans (hbb.mono HB3.out.size)⟩
  have HLL := Aside0.mk hl2
  have HLB := Aside0.mk (Kd.C_below HL3.out hbb)
  have HC4b := Aside0.mk (Kd.C_below HC4.out hbb)
  have HC5b := Aside0.mk (Kd.C_below HC5.out hbb)
  clear hwb hbb hl2 HL3 HC4 HC5
  have hm2 : mM L2 ≤ 1099511627776 := by decide
  have hx2 : mX ([] : List S43) ≤ 1099511627776 := by decide
  refine (put_calls (some ⟨w3.heap.size, 0, none⟩) 1 L2 (Nat.le_refl _) none 0 [] (Nat.le_refl _) hm2 hx2 wb (HV.out.below HBB.out) HLL.out (Kd.C_nil _ _)).mono ?_
  clear hm2 hx2 HLL
  intro e w4 h4
  obtain ⟨v7, h4, ho4, hb4⟩ := h4
  subst h4
  rw [put2] at ho4 ⊢
  simp only [] at ho4 ⊢
  obtain ⟨A7, c7, rfl, _, _⟩ := ho4.reads
  have HB4 : Aside0 (Below w.heap.size w w4) := ⟨HBB.out.trans (hb4.mono HBB.out.size)⟩
  have HLB4 := Aside0.mk (Kd.C_below HLB.out hb4)
  have HC44 := Aside0.mk (Kd.C_below HC4b.out hb4)
  have HC54 := Aside0.mk (Kd.C_below HC5b.out hb4)
  clear ho4 hb4 HLB HC4b HC5b HB3 HBB
  go_wp2_with fail
  refine (read_calls none 0 [] (Nat.le_refl _) b2 w4 (HV.out.below HB4.out) (Kd.C_nil _ _)).mono ?_
  intro e w5 h5
  obtain ⟨v9, v10, h5, _, _, hb5⟩ := h5
  subst h5
  rw [read0]
  have HB5 : Aside0 (Below w.heap.size w w5) := ⟨HB4.out.trans (hb5.mono HB4.out.size)⟩
  have HLB5 := Aside0.mk (Kd.C_below HLB4.out hb5)
  have HC45 := Aside0.mk (Kd.C_below HC44.out hb5)
  have HC55 := Aside0.mk (Kd.C_below HC54.out hb5)
  clear hb5 HLB4 HC44 HC54 HB4
  simp only []
  obtain ⟨K, hK⟩ := members_self L1 (by decide) (by decide)
  have HKK := Aside0.mk hK
  clear hK
  go_wp2_with fail
  refine (bulwarklaw10_members.calls K A4 c4 L1 (some ⟨w.heap.size + 1, 0, none⟩) 1 L1 true _ HC45.out HCC4.out HLB5.out (Nat.le_refl _) HKK.out).mono ?_
  intro e w6 h6
  obtain ⟨h6, hd6⟩ := h6
  subst h6
  have hb6 := hd6.below
  have HB6 : Aside0 (Below w.heap.size w w6) := ⟨HB5.out.trans (hb6.mono HB5.out.size)⟩
  have HC56 := Aside0.mk (Kd.C_below HC55.out hb6)
  clear hd6 hb6 HC55 HC45 HLB5 HB5
  obtain ⟨ad, hA, f0, f1⟩ := at_T43 HC56.out 0 (by decide) (by decide)
  cases hA
  have hz : ad.add ((0 : Int).toNat * 2) = ad := by simp [Addr.add]
  rw [hz] at f0 f1
  have g0 : w6.cell? ad = some (.string ⟨#[102]⟩) := f0
  have g1 : w6.cell? ⟨ad.block, ad.off + 1, none⟩ = some (.int .i64 0) := f1
  clear f0 f1 hz
  simp only []
  go_wp2_with fail
  go_ret
  exact ⟨rfl, HB6.out⟩
end Go.Proofs.YtdjmahmbofhnpaaDoor.Ar
