/- The law SymsTable walked. -/
import Derived.Test.YtchkjfokoenlnaaQSyL
namespace Go.Proofs.Ytchkjfokoenlnaa.Sym
open Go.RowKit Go.Maps Go.WideMaps Go.Proofs.YtchkjfokoenlnaaW.PrintWords Go.Proofs.YtchkjfokoenlnaaW.PrintLast Go.Proofs.Ytchkjfokoenlnaa.QSy
set_option linter.unusedVariables false
set_option linter.unusedSimpArgs false
attribute [local go_sem high] eqA32 eqA37
/-- What the laws of syms know of the objects. -/
structure Ls (ls : List S44) : Prop where
  len : LenOk ls
  names : NamesOk ls
  cnt : cnt ls ≤ 9223372036854775807
theorem old_cells {w w' : World} {q : Nat} {cs : Array Value} {t : TypeId} (h : w.heap[q]? = some (.cells cs t (0, 0))) (hb : Below w.heap.size w w') (i : Nat) (v : Value) (hv : cs[i]? = some v) : w'.cell? ⟨q, i, none⟩ = some v := by
  have h2 := (hb.block q (Array.getElem?_eq_some_iff.1 h).1).trans h
  unfold World.cell?
  rw [h2]
  simpa using hv
set_option maxRecDepth 100000 in
set_option maxHeartbeats 16000000 in
theorem table_walk (W : World) (A : Option Addr) (c : Nat) (ls : List S44) (hc : ls.length ≤ c) (A1 : Option Addr) (c1 : Nat) (own : List ByteArray) (hc1 : own.length ≤ c1) (o k : Int) (hr : Kd.C k44 W A ls.length ls) (hr1 : Kd.C Kd.string W A1 own.length own) (hL : Ls ls) :
    Calls Try.prog 3 #[.slice A ls.length c, .slice A1 own.length c1, .int .i64 o, .int .i64 k] W fun e w' => e = .returned (.bool true) ∧ Below W.heap.size W w' := by
  have HR := Aside0.mk hr
  have HR1 := Aside0.mk hr1
  have HC := Aside0.mk hc
  have HC1 := Aside0.mk hc1
  have HL := Aside0.mk hL
  clear hr hr1 hc hc1 hL
  have M := Aside0.mk (many_said A c ls HC.out HL.out.len HL.out.cnt W HR.out)
  obtain ⟨m, hm⟩ : ∃ m, decide (400 < cnt ls) = m := ⟨_, rfl⟩
  rw [hm] at M
  have HM := Aside0.mk hm
  clear hm
  go_enter Try.func3, Try.ntmps3
  go_wp2_with fail
  refine M.out.mono ?_
  intro e w1 h1
  obtain ⟨h1, hd1⟩ := h1
  subst h1
  have HB1 : Aside0 (Below W.heap.size W w1) := ⟨Drawn0.below hd1⟩
  clear hd1
  cases m with
  | true =>
    simp only []
    go_wp2_with fail
    refine (lives_calls _).mono ?_
    intro e w2 h2
    obtain ⟨h2, hb2⟩ := h2
    subst h2
    have HB2 : Aside0 (Below W.heap.size W w2) := ⟨HB1.out.trans (hb2.mono HB1.out.size)⟩
    clear hb2
    simp only []
    go_wp2_with fail
    go_ret
    exact ⟨rfl, HB2.out⟩
  | false =>
    have HN : Aside0 (cnt ls ≤ 400) := ⟨by have := HM.out; simp at this; exact this⟩
    obtain ⟨r, hr⟩ : ∃ r, tableR ls own = r := ⟨_, rfl⟩
    have HT := Aside0.mk hr
    clear hr
    obtain ⟨t, nm, er⟩ := r
    simp only []
    go_wp2_with fail
    refine (table_said A c ls HC.out HN.out HL.out.names A1 c1 own HC1.out _ (Kd.C_below HR.out HB1.out) (Kd.C_below HR1.out HB1.out) _ HT.out).mono ?_
    intro e w2 h2
    obtain ⟨v, h2, hv, hb2⟩ := h2
    subst h2
    have HB2 : Aside0 (Below W.heap.size W w2) := ⟨HB1.out.trans (hb2.mono HB1.out.size)⟩
    clear hb2
    obtain ⟨At, ct, rfl⟩ := Kd.R_slice hv
    have HV := Aside0.mk (Kd.R_reads' hv).2
    clear hv
    simp only []
    go_wp2_with fail
    refine (table_ref A c ls HC.out HN.out HL.out.len A1 c1 own HC1.out _ (Kd.C_below HR.out HB2.out) (Kd.C_below HR1.out HB2.out) _ HT.out).mono ?_
    intro e w3 h3
    obtain ⟨v, h3, hv, hb3⟩ := h3
    subst h3
    have HV' : Aside0 (t.length ≤ ct ∧ Kd.C k37 w3 At t.length t) := ⟨HV.out.1, Kd.C_below HV.out.2 hb3⟩
    clear HV
    have HB3 : Aside0 (Below W.heap.size W w3) := ⟨HB2.out.trans (hb3.mono HB2.out.size)⟩
    clear hb3
    obtain ⟨Au, cu, rfl⟩ := Kd.R_slice hv
    have HU := Aside0.mk (Kd.R_reads' hv).2
    clear hv
    simp only []
    go_wp2_with fail
    refine (bounds_same At ct Au cu t HV'.out.1 HU.out.1 _ HV'.out.2 HU.out.2).mono ?_
    intro e w4 h4
    obtain ⟨h4, hd4⟩ := h4
    subst h4
    have hb4 := Drawn0.below hd4
    have HV4 : Aside0 (t.length ≤ ct ∧ Kd.C k37 w4 At t.length t) := ⟨HV'.out.1, Kd.C_below HV'.out.2 hb4⟩
    have HU4 : Aside0 (t.length ≤ cu ∧ Kd.C k37 w4 Au t.length t) := ⟨HU.out.1, Kd.C_below HU.out.2 hb4⟩
    have HB4 : Aside0 (Below W.heap.size W w4) := ⟨HB3.out.trans (hb4.mono HB3.out.size)⟩
    clear hb4 hd4 HV' HU
    simp only []
    go_wp2_with fail
    obtain ⟨⟨⟨a, b, d⟩, ok⟩, hof⟩ : ∃ r, ofS t ls o k = r := ⟨_, rfl⟩
    have OC := fun w h1 h2 => of_calls At ct t HV4.out.1 A c ls HC.out o k w h1 h2
    have OR := fun w h1 h2 => of_ref Au cu t HU4.out.1 A c ls HC.out o k w h1 h2
    rw [hof] at OC OR
    have OCA := Aside0.mk OC
    have ORA := Aside0.mk OR
    clear OC OR hof
    refine (OCA.out _ HV4.out.2 (Kd.C_below HR.out HB4.out)).mono ?_
    intro e w5 h5
    obtain ⟨h5, hb5⟩ := h5
    subst h5
    have HU5 : Aside0 (Kd.C k37 w5 Au t.length t) := ⟨Kd.C_below HU4.out.2 hb5⟩
    have HB5 : Aside0 (Below W.heap.size W w5) := ⟨HB4.out.trans (hb5.mono HB4.out.size)⟩
    clear hb5
    simp only []
    go_wp2_with fail
    have hbk : (w5.alloc (.cells #[.int .i64 a, .int .i64 b, .int .i64 d] 32 (0, 0))).heap[w5.heap.size]? = _ := heap_alloc_new _ _
    have HBK := Aside0.mk hbk
    have HB6 : Aside0 (Below W.heap.size W (w5.alloc (.cells #[.int .i64 a, .int .i64 b, .int .i64 d] 32 (0, 0)))) := ⟨below_alloc HB5.out _⟩
    clear hbk
    refine (ORA.out _ (Kd.C_below HU5.out (below_alloc (Below.refl _ _) _)) (Kd.C_below HR.out (below_alloc HB5.out _))).mono ?_
    intro e w6 h6
    obtain ⟨h6, hb6⟩ := h6
    subst h6
    have k0 : ∀ ob, (w6.alloc ob).cell? ⟨w5.heap.size, 0, none⟩ = some (.int .i64 a) := fun ob => cell_alloc (old_cells HBK.out hb6 0 _ rfl) ob
    have k1 : ∀ ob, (w6.alloc ob).cell? ⟨w5.heap.size, 1, none⟩ = some (.int .i64 b) := fun ob => cell_alloc (old_cells HBK.out hb6 1 _ rfl) ob
    have k2 : ∀ ob, (w6.alloc ob).cell? ⟨w5.heap.size, 2, none⟩ = some (.int .i64 d) := fun ob => cell_alloc (old_cells HBK.out hb6 2 _ rfl) ob
    have HB7 : Aside0 (Below W.heap.size W w6) := ⟨HB6.out.trans (hb6.mono HB6.out.size)⟩
    clear hb6
    simp only []
    go_wp2_with fail
    refine (lives_calls _).mono ?_
    intro e w8 h8
    obtain ⟨h8, hb8⟩ := h8
    subst h8
    have HB8 : Aside0 (Below W.heap.size W w8) := ⟨(below_alloc HB7.out _).trans (hb8.mono (by have := HB7.out.size; simp only [World.size_alloc]; omega))⟩
    clear hb8
    simp only []
    go_wp2_with fail
    go_ret
    exact ⟨rfl, HB8.out⟩
end Go.Proofs.Ytchkjfokoenlnaa.Sym
