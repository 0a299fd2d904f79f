/- The law SymsOwn walked, and its argument opened. Condition: the plan is of bulk at most 1048576. -/
import Derived.Test.YtchkjfokoenlnaaQSyS3
import Derived.Test.YtchkjfokoenlnaaQSyx9
import Derived.Test.YtchkjfokoenlnaaQSyL
import Derived.Test.YtchkjfokoenlnaaQOpen
namespace Go.Proofs.Ytchkjfokoenlnaa.Sym
open Go.RowKit Go.Proofs.YtchkjfokoenlnaaW.PrintWords Go.Proofs.YtchkjfokoenlnaaW.PrintLast Go.Proofs.Ytchkjfokoenlnaa.QSy Go.Proofs.Ytchkjfokoenlnaa.Open
set_option linter.unusedVariables false
set_option linter.unusedSimpArgs false
theorem texts_self (t : List ByteArray) (ht : t.length ≤ 9223372036854775807) : ∃ K, bulwarkref00_Texts.f K t t = some true := by
  unfold bulwarkref00_Texts.f
  have key : ∀ (d i : Nat), i + d = t.length → ∃ K, bulwarkref00_Texts.l0 K t t (i : Int) = some true := by
    intro d
    induction d with
    | zero =>
      intro i hi
      refine ⟨1, ?_⟩
      simp only [bulwarkref00_Texts.l0]
      rw [if_neg (by omega)]
    | succ d ih =>
      intro i hi
      have hlt : i < t.length := by omega
      obtain ⟨K, hK⟩ := ih (i + 1) (by omega)
      refine ⟨K + 1, ?_⟩
      simp only [bulwarkref00_Texts.l0]
      rw [if_pos (by omega), if_pos (by omega), if_pos (by omega), wrap_succ hlt ht, if_pos trivial]
      exact hK
  obtain ⟨K, hK⟩ := key t.length 0 (by omega)
  exact ⟨K, by rw [if_pos rfl]; exact hK⟩
theorem texts_same (A : Option Addr) (c : Nat) (A1 : Option Addr) (c1 : Nat) (t : List ByteArray) (hc : t.length ≤ c) (hc1 : t.length ≤ c1) (w : World) (hr : Kd.C Kd.string w A t.length t) (hr1 : Kd.C Kd.string w A1 t.length t) :
    Calls Try.prog 16 #[.slice A t.length c, .slice A1 t.length c1] w fun e w' => e = .returned (.bool true) ∧ Drawn0 w w' := by
  obtain ⟨K, hK⟩ := texts_self t hr.2.1
  exact bulwarkref00_Texts.calls K A c t A1 c1 t true w hr hc hr1 hc1 hK
def T6_1 : Bool × List (List Nat × List Nat) := (true, [([], []), ([], []), ([0, 1], [0, 1]), ([], []), ([], []), ([3, 4, 2], [3, 4]), ([2, 5, 5], [2, 5]), ([6, 6], [6]), ([7, 7], [7]), ([7, 8], [7, 8]), ([9, 8, 0, 1, 2, 3, 4, 5, 6, 7, 8, 9], [9])])
theorem tab6_1 : rtab .any (opsOf Try.f6 1) = T6_1 := by kernel_rfl
def B6_1 : List Nat := [0, 0, 3, 0, 0, 31, 63, 127, 255, 511, 1023]
theorem bits6_1 : waitsOk T6_1.2 B6_1 = true := by kernel_rfl
set_option maxRecDepth 100000 in
set_option maxHeartbeats 16000000 in
theorem own_walk (s t st : Int) (m : ByteArray) (Ah : Option Addr) (ch : Nat) (hs : List S89) (Ac : Option Addr) (cc : Nat) (cs : List S78) (c : Int) (W : World) (hrh : Kd.C k89 W Ah hs.length hs) (hrc : Kd.C k78 W Ac cs.length cs) (hz : 0 ≤ c → c < cs.length → OwnOk cs hs (rd_T78 cs c)) :
    Calls Try.prog 6 #[.agg #[.int .i64 s, .int .i64 t, .slice Ah hs.length ch, .slice Ac cs.length cc, .int .i64 st, .string m], .int .i64 c] W fun e w' => e = .returned (.bool true) ∧ Below W.heap.size W w' := by
  have HRH := Aside0.mk hrh
  have HRC := Aside0.mk hrc
  have HZ := Aside0.mk hz
  obtain ⟨L, hL⟩ : ∃ L, ownS cs hs c = L := ⟨_, rfl⟩
  have HL := Aside0.mk hL
  clear hrh hrc hz hL
  go_enter Try.func6, Try.ntmps6
  go_upto_region 1 with fail
  generalize hWP : W.alloc (.cells #[.int .i64 s, .int .i64 t, .slice Ah hs.length ch, .slice Ac cs.length cc, .int .i64 st, .string m] 53 (0, 0)) = wp
  have HBP : Aside0 (Below W.heap.size W wp) := ⟨by rw [← hWP]; exact below_alloc (Below.refl _ _) _⟩
  have p0 : wp.cell? ⟨W.heap.size, 0, none⟩ = some (.int .i64 s) := by rw [← hWP]; exact blk_cell (heap_alloc_new _ _) 0
  have p1 : wp.cell? ⟨W.heap.size, 1, none⟩ = some (.int .i64 t) := by rw [← hWP]; exact blk_cell (heap_alloc_new _ _) 1
  have p2 : wp.cell? ⟨W.heap.size, 2, none⟩ = some (.slice Ah hs.length ch) := by rw [← hWP]; exact blk_cell (heap_alloc_new _ _) 2
  have p3 : wp.cell? ⟨W.heap.size, 3, none⟩ = some (.slice Ac cs.length cc) := by rw [← hWP]; exact blk_cell (heap_alloc_new _ _) 3
  have p4 : wp.cell? ⟨W.heap.size, 4, none⟩ = some (.int .i64 st) := by rw [← hWP]; exact blk_cell (heap_alloc_new _ _) 4
  have p5 : wp.cell? ⟨W.heap.size, 5, none⟩ = some (.string m) := by rw [← hWP]; exact blk_cell (heap_alloc_new _ _) 5
  clear hWP
  refine start_ (n := 11) (S := fun w' => w'.cell? ⟨W.heap.size, 0, none⟩ = some (.int .i64 s) ∧ w'.cell? ⟨W.heap.size, 1, none⟩ = some (.int .i64 t) ∧ w'.cell? ⟨W.heap.size, 2, none⟩ = some (.slice Ah hs.length ch) ∧ w'.cell? ⟨W.heap.size, 3, none⟩ = some (.slice Ac cs.length cc) ∧ w'.cell? ⟨W.heap.size, 4, none⟩ = some (.int .i64 st) ∧ w'.cell? ⟨W.heap.size, 5, none⟩ = some (.string m)) (ds := [10]) #[false, false, false, false, false, false, false, false, false, false, false] (by kernel_rfl) rfl rfl ⟨p0, p1, p2, p3, p4, p5⟩ (fun hHeld => ?_)
  refine with_tabW tab6_1 bits6_1 (fun HT_ HW_ => ?_)
  have HBD : Aside0 (Below W.heap.size W wp.drew) := ⟨below_drew HBP.out⟩
  clear p0 p1 p2 p3 p4 p5 HBP
  generalize wp.drew = wd at HBD hHeld ⊢
  refine take_ (i := 0) (N := some 5) (v := ?_) (a' := ?_) #[true, false, false, false, false, false, false, false, false, false, false] rfl rfl (take_ofW HT_.out HW_.out (by kernel_rfl)) (fun _ _ _ h => h) (Or.inl ⟨by rfl, ?_⟩) hHeld ?_ ?_
  rotate_left
  · rintro w' ⟨s0, s1, s2, s3, s4, s5⟩
    go_simp
    with_reducible rfl
  rotate_left
  · skip
    simp only [Act.put, List.setIfInBounds_toArray, List.set_cons_zero, List.set_cons_succ, i64_w, i32_w]
    rfl
  refine pure_ (i := 1) (N := some 6) (v := ?_) (a' := ?_) #[true, true, false, false, false, false, false, false, false, false, false] rfl rfl (any_of HT_.out (by kernel_rfl)) (fun _ _ _ h => h) (Or.inl ⟨by rfl, ?_⟩) ?_ ?_
  rotate_left
  · intro w'
    go_simp
    with_reducible rfl
  rotate_left
  · skip
    simp only [Act.put, List.setIfInBounds_toArray, List.set_cons_zero, List.set_cons_succ, i64_w, i32_w]
    rfl
  refine take_ (i := 3) (N := some 8) (v := ?_) (a' := ?_) #[true, true, false, true, false, false, false, false, false, false, false] rfl rfl (take_ofW HT_.out HW_.out (by kernel_rfl)) (fun _ _ _ h => h) (Or.inl ⟨by rfl, ?_⟩) hHeld ?_ ?_
  rotate_left
  · rintro w' ⟨s0, s1, s2, s3, s4, s5⟩
    go_simp
    with_reducible rfl
  rotate_left
  · skip
    simp only [Act.put, List.setIfInBounds_toArray, List.set_cons_zero, List.set_cons_succ, i64_w, i32_w]
    rfl
  refine pure_ (i := 4) (N := some 9) (v := ?_) (a' := ?_) #[true, true, false, true, true, false, false, false, false, false, false] rfl rfl (any_of HT_.out (by kernel_rfl)) (fun _ _ _ h => h) (Or.inl ⟨by rfl, ?_⟩) ?_ ?_
  rotate_left
  · intro w'
    go_simp
    with_reducible rfl
  rotate_left
  · skip
    simp only [Act.put, List.setIfInBounds_toArray, List.set_cons_zero, List.set_cons_succ, i64_w, i32_w]
    rfl
  refine one_ (i := 2) (N := some 7) #[true, true, true, true, true, false, false, false, false, false, false] rfl rfl (one_of HT_.out (by kernel_rfl)) (by decide) (fun K hK => ?_)
  refine goes_ Try.func17 (by kernel_rfl) rfl #[.agg #[.int .i64 s, .int .i64 t, .slice Ah hs.length ch, .slice Ac cs.length cc, .int .i64 st, .string m], .int .i64 c] (by rfl) rfl rfl (by (try simp only [List.map_toArray, List.map_cons, List.map_nil]); first | done | rfl) ?_
  refine (own_calls s t st m Ah ch hs Ac cc cs c wd (Kd.C_below HRH.out HBD.out) (Kd.C_below HRC.out HBD.out) HZ.out).mono ?_
  intro e w1 h1
  obtain ⟨v1, h1, hv1, hb1⟩ := h1
  rw [HL.out] at hv1
  subst h1
  obtain ⟨B1, d1, rfl⟩ := Kd.R_slice hv1
  refine ⟨_, rfl, ?_⟩
  refine hK.out _ _ (by obtain ⟨s0, s1, s2, s3, s4, s5⟩ := hHeld; exact ⟨pw_cell_below hb1 s0, pw_cell_below hb1 s1, pw_cell_below hb1 s2, pw_cell_below hb1 s3, pw_cell_below hb1 s4, pw_cell_below hb1 s5⟩) (fun hS1 => ?_)
  clear hK K
  refine norm_ (a' := ?_) ?_ ?_
  rotate_left
  · show Act.put _ (some 7) _ = _
    simp only [Act.put, List.setIfInBounds_toArray, List.set_cons_zero, List.set_cons_succ, i64_w, i32_w]
    rfl
  have HB1 : Aside0 (Below W.heap.size W w1) := ⟨HBD.out.trans (hb1.mono HBD.out.size)⟩
  have HV1 := Aside0.mk (Kd.R_reads' hv1).2
  clear hHeld hb1 hv1 HBD
  refine one_ (i := 5) (N := some 10) #[true, true, true, true, true, true, false, false, false, false, false] rfl rfl (one_of HT_.out (by kernel_rfl)) (by decide) (fun K hK => ?_)
  refine goes_ Try.func18 (by kernel_rfl) rfl #[.agg #[.int .i64 s, .int .i64 t, .slice Ah hs.length ch, .slice Ac cs.length cc, .int .i64 st, .string m], .int .i64 c] (by rfl) rfl rfl (by (try simp only [List.map_toArray, List.map_cons, List.map_nil]); first | done | rfl) ?_
  refine (own_ref s t st m Ah ch hs Ac cc cs c w1 (Kd.C_below HRH.out HB1.out) (Kd.C_below HRC.out HB1.out) HZ.out).mono ?_
  intro e w2 h2
  obtain ⟨v2, h2, hv2, hb2⟩ := h2
  rw [HL.out] at hv2
  subst h2
  obtain ⟨B2, d2, rfl⟩ := Kd.R_slice hv2
  refine ⟨_, rfl, ?_⟩
  refine hK.out _ _ (by obtain ⟨s0, s1, s2, s3, s4, s5⟩ := hS1; exact ⟨pw_cell_below hb2 s0, pw_cell_below hb2 s1, pw_cell_below hb2 s2, pw_cell_below hb2 s3, pw_cell_below hb2 s4, pw_cell_below hb2 s5⟩) (fun hS2 => ?_)
  clear hK K
  refine norm_ (a' := ?_) ?_ ?_
  rotate_left
  · show Act.put _ (some 10) _ = _
    simp only [Act.put, List.setIfInBounds_toArray, List.set_cons_zero, List.set_cons_succ, i64_w, i32_w]
    rfl
  have HB2 : Aside0 (Below W.heap.size W w2) := ⟨HB1.out.trans (hb2.mono HB1.out.size)⟩
  have HV2 := Aside0.mk (Kd.R_reads' hv2).2
  have HV1' : Aside0 (Kd.C Kd.string w2 B1 L.length L) := ⟨Kd.C_below HV1.out.2 hb2⟩
  clear hS1 hb2 hv2 HB1
  refine one_ (i := 6) (N := some 11) #[true, true, true, true, true, true, true, false, false, false, false] rfl rfl (one_of HT_.out (by kernel_rfl)) (by decide) (fun K hK => ?_)
  refine goes_ Try.func16 (by kernel_rfl) rfl #[.slice B1 L.length d1, .slice B2 L.length d2] (by rfl) rfl rfl (by (try simp only [List.map_toArray, List.map_cons, List.map_nil]); first | done | rfl) ?_
  refine (texts_same B1 d1 B2 d2 L HV1.out.1 HV2.out.1 w2 HV1'.out HV2.out.2).mono ?_
  intro e w3 h3
  obtain ⟨h3, hd3⟩ := h3
  subst h3
  have hb3 := Drawn0.below hd3
  refine ⟨_, rfl, ?_⟩
  refine hK.out _ _ (by obtain ⟨s0, s1, s2, s3, s4, s5⟩ := hS2; exact ⟨pw_cell_below hb3 s0, pw_cell_below hb3 s1, pw_cell_below hb3 s2, pw_cell_below hb3 s3, pw_cell_below hb3 s4, pw_cell_below hb3 s5⟩) (fun hS3 => ?_)
  clear hK K
  refine norm_ (a' := ?_) ?_ ?_
  rotate_left
  · show Act.put _ (some 11) _ = _
    simp only [Act.put, List.setIfInBounds_toArray, List.set_cons_zero, List.set_cons_succ, i64_w, i32_w]
    rfl
  have HB3 : Aside0 (Below W.heap.size W w3) := ⟨HB2.out.trans (hb3.mono HB2.out.size)⟩
  clear hS2 hb3 hd3 HB2 HV1 HV1' HV2
  refine pure_ (i := 7) (N := some 12) (v := ?_) (a' := ?_) #[true, true, true, true, true, true, true, true, false, false, false] rfl rfl (any_of HT_.out (by kernel_rfl)) (fun _ _ _ h => h) (Or.inl ⟨by rfl, ?_⟩) ?_ ?_
  rotate_left
  · intro w'
    go_simp
    with_reducible rfl
  rotate_left
  · skip
    simp only [Act.put, List.setIfInBounds_toArray, List.set_cons_zero, List.set_cons_succ, i64_w, i32_w]
    rfl
  refine one_ (i := 8) (N := some 13) #[true, true, true, true, true, true, true, true, true, false, false] rfl rfl (one_of HT_.out (by kernel_rfl)) (by decide) (fun K hK => ?_)
  refine goes_ Try.func8 (by kernel_rfl) rfl #[] (by rfl) rfl rfl (by (try simp only [List.map_toArray, List.map_cons, List.map_nil]); first | done | rfl) ?_
  refine (lives_calls w3).mono ?_
  intro e w4 h4
  obtain ⟨h4, hb4⟩ := h4
  subst h4
  refine ⟨_, rfl, ?_⟩
  refine hK.out _ _ (by obtain ⟨s0, s1, s2, s3, s4, s5⟩ := hS3; exact ⟨pw_cell_below hb4 s0, pw_cell_below hb4 s1, pw_cell_below hb4 s2, pw_cell_below hb4 s3, pw_cell_below hb4 s4, pw_cell_below hb4 s5⟩) (fun hS4 => ?_)
  clear hK K
  refine norm_ (a' := ?_) ?_ ?_
  rotate_left
  · show Act.put _ (some 13) _ = _
    simp only [Act.put, List.setIfInBounds_toArray, List.set_cons_zero, List.set_cons_succ, i64_w, i32_w]
    rfl
  have HB4 : Aside0 (Below W.heap.size W w4) := ⟨HB3.out.trans (hb4.mono HB3.out.size)⟩
  clear hS3 hS4 hb4 HB3
  refine pure_ (i := 9) (N := some 14) (v := ?_) (a' := ?_) #[true, true, true, true, true, true, true, true, true, true, false] rfl rfl (any_of HT_.out (by kernel_rfl)) (fun _ _ _ h => h) (Or.inl ⟨by rfl, ?_⟩) ?_ ?_
  rotate_left
  · intro w'
    go_simp
    with_reducible rfl
  rotate_left
  · skip
    simp only [Act.put, List.setIfInBounds_toArray, List.set_cons_zero, List.set_cons_succ, i64_w, i32_w]
    rfl
  refine last_ (i := 10) (N := some 4) #[true, true, true, true, true, true, true, true, true, true, true] rfl rfl (one_of HT_.out (by kernel_rfl)) (by decide) (fun K hK => ?_)
  refine value_ (w1 := ?_) (v := ?_) (by rfl) rfl ?_ ?_
  rotate_left 2
  · go_simp
    constructor
    · rfl
    · rfl
  refine hK.out _ _ ?_
  clear hK K
  refine norm_ (a' := ?_) ?_ ?_
  rotate_left
  · show Act.put _ (some 4) _ = _
    simp only [Act.put, List.setIfInBounds_toArray, List.set_cons_zero, List.set_cons_succ, i64_w, i32_w]
    rfl
  refine done_ (done_of HT_.out (by kernel_rfl)) ?_
  go_wp2_with fail
  go_ret
  exact ⟨rfl, HB4.out⟩
section
variable {H : Type} {enc : TypeId × Value → H} {w : World} {base : Nat} {spare : Nat → Bool} {held : Bool}
theorem op_str (t : TypeId) (ht : Try.prog.underlying t = some .string) (hc : Try.prog.cellsOf t = 1) : Opens enc Try.prog w base spare held t Kd.string (fun _ => True) (fun s => s.size ≤ 140737488351232) (fun _ => 0) :=
  op_imp (op_string ht hc) (fun _ _ => trivial) (fun _ h => h) (fun _ => Nat.zero_le _)
end
end Go.Proofs.Ytchkjfokoenlnaa.Sym
