/- Contracts of instr.Name, instr.Named, ref05.Name, ref05.Named. No condition beyond the kinds' bounds. -/
import Derived.Test.YthkbjoglhfclmaaQInsR2
import Derived.LoopTactic
namespace Go.Proofs.Ythkbjoglhfclmaa.Ins
open Go.RowKit Go.Proofs.YthkbjoglhfclmaaW.PrintWords Go.Proofs.YthkbjoglhfclmaaW.PrintLast Go.Proofs.Ythkbjoglhfclmaa.Alu Go.Proofs.Ythkbjoglhfclmaa.InsP
set_option linter.unusedVariables false
set_option linter.unusedSimpArgs false
/-- An instruction's name, and whether there is one; and back. -/
def nameS (o : Int) : ByteArray × Bool := match pairs.find? (fun p => opP p == o) with | none => (⟨#[]⟩, false) | some p => (nameP p, true)
def namedS (s : ByteArray) : Int × Bool := match pairs.find? (fun p => decide (nameP p = s)) with | none => (0, false) | some p => (opP p, true)
def nameV (r : ByteArray × Bool) : Value := .tuple #[.string r.1, .bool r.2]
def namedV (r : Int × Bool) : Value := .tuple #[.int .u8 r.1, .bool r.2]
theorem nameS_of {p : Nat × Nat} (hp : p ∈ pairs) : nameS (opP p) = (nameP p, true) := by
  have e : pairs.find? (fun q => opP q == opP p) = some p := by
    cases hq : pairs.find? (fun q => opP q == opP p) with
    | none => exact absurd (beq_self_eq_true (opP p)) (List.find?_eq_none.mp hq p hp)
    | some q =>
      have h := List.find?_some hq
      rw [ops_apart q (List.mem_of_find?_eq_some hq) p hp (by simpa using h)]
  rw [nameS, e]
theorem nameS_no {o : Int} (h : o = 0 ∨ 69 ≤ o) : nameS o = (⟨#[]⟩, false) := by
  have e : pairs.find? (fun q => opP q == o) = none := List.find?_eq_none.mpr fun p hp => by
    have := (words_in p hp).2.2.2.2
    simp only [beq_iff_eq]; omega
  rw [nameS, e]
theorem namedS_of {p : Nat × Nat} (hp : p ∈ pairs) : namedS (nameP p) = (opP p, true) := by
  have e : pairs.find? (fun q => decide (nameP q = nameP p)) = some p := by
    cases hq : pairs.find? (fun q => decide (nameP q = nameP p)) with
    | none => exact absurd (decide_eq_true rfl) (List.find?_eq_none.mp hq p hp)
    | some q =>
      have h := List.find?_some hq
      rw [names_apart q (List.mem_of_find?_eq_some hq) p hp (by simpa using h)]
  rw [namedS, e]
theorem namedS_no {s : ByteArray} (h : ∀ p ∈ pairs, nameP p ≠ s) : namedS s = (0, false) := by
  have e : pairs.find? (fun q => decide (nameP q = s)) = none := List.find?_eq_none.mpr fun p hp => by
    have := h p hp
    simpa using this
  rw [namedS, e]
theorem bytes_ne {a b : ByteArray} (h : ¬ a = b) : (a.toList == b.toList) = false := by
  rw [beq_eq_false_iff_ne]
  intro e
  rw [ByteArray.toList_eq, ByteArray.toList_eq] at e
  obtain ⟨a⟩ := a
  obtain ⟨b⟩ := b
  exact h (congrArg ByteArray.mk (Array.toList_inj.1 e))
theorem RowS.far_read {w : World} {A : Option Addr} {n : Nat} {c : Nat} {xs : List ByteArray} (h : RowS w (.slice A n c) xs) (i : Nat) (hi : i < xs.length) : n = xs.length ∧ ∃ ad, A = some ad ∧ w.cell? (ad.add i) = some (.string (xs.getD i ByteArray.empty)) := by
  obtain ⟨A2, c2, hv, hC⟩ := h
  obtain ⟨rfl, rfl, rfl⟩ : A = A2 ∧ n = xs.length ∧ c = c2 := by simpa using hv
  obtain ⟨_, _, hcells⟩ := readsS hC
  obtain ⟨ad, had, hc⟩ := hcells (Nat.lt_of_le_of_lt (Nat.zero_le _) hi)
  exact ⟨rfl, ad, had, hc i hi⟩

set_option maxHeartbeats 8000000 in
set_option maxRecDepth 100000 in
theorem name_yes (k i : Nat) (hk : k < 18) (hi : i < (fam k).words.length) (w : World) : Calls Try.prog 30 #[.int .u8 ((fam k).first + i)] w fun e w' => e = .returned (.tuple #[.string (nameP (k, i)), .bool true]) ∧ Below w.heap.size w w' := by
  have hin : i < (fam k).names.length := by rw [(fam_bounds k hk).2.2.2.2]; exact hi
  have HIN := Aside0.mk hin
  obtain ⟨o, ho⟩ : ∃ o : Int, (fam k).first + i = o := ⟨_, rfl⟩
  have OC := Aside0.mk (of_yes k i hk hi)
  rw [ho] at OC ⊢
  obtain ⟨nm, hnm⟩ : ∃ x, nameP (k, i) = x := ⟨_, rfl⟩
  rw [hnm]
  have HNM : Aside0 ((fam k).names.getD i ByteArray.empty = nm) := ⟨hnm⟩
  clear hnm
  clear hk hi ho hin
  go_enter Try.func30, Try.ntmps30
  go_wp2_with fail
  refine (OC.out _).mono ?_
  rintro e w1 ⟨A, n, c, A', n', c', rfl, hS, hI, hb⟩
  obtain ⟨rfl, ad, rfl, hcell⟩ := hS.far_read i HIN.out
  have HB : Aside0 (Below w.heap.size w w1) := ⟨hb⟩
  have hin2 : (i : Int) < ((fam k).names.length : Int) := by have := HIN.out; omega
  rw [HNM.out] at hcell
  generalize (fam k).names.length = L at *
  have hcl := World.block_lt_of_cell? w1 _ hcell
  clear hb hS hI
  have hcell2 : ∀ o, (w1.alloc o).cell? (ad.add i) = some (.string nm) := fun o => by rw [World.cell?_alloc_lt _ _ _ hcl]; exact hcell
  go_wp2
  go_ret2
  exact ⟨by first | rfl | simp, HB.out.alloc HB.out.size _⟩
set_option maxHeartbeats 8000000 in
set_option maxRecDepth 100000 in
theorem name_no (o : Int) (h0 : 0 ≤ o) (h1 : o < 256) (ho : o = 0 ∨ 69 ≤ o) (w : World) : Calls Try.prog 30 #[.int .u8 o] w fun e w' => e = .returned (.tuple #[.string ⟨#[]⟩, .bool false]) ∧ Below w.heap.size w w' := by
  have OC := Aside0.mk (of_no o h0 h1 ho)
  clear ho
  go_enter Try.func30, Try.ntmps30
  go_wp2_with fail
  refine (OC.out _).mono ?_
  rintro e w1 ⟨rfl, hb⟩
  have HB : Aside0 (Below w.heap.size w w1) := ⟨hb⟩
  clear hb
  go_wp2
  go_ret2
  exact ⟨by first | rfl | simp, HB.out.alloc HB.out.size _⟩
set_option maxHeartbeats 8000000 in
set_option maxRecDepth 100000 in
theorem rname_any (o : Int) (nm : ByteArray) (a b c d : Int) (is : Bool) (o' : Int) (RC : Aside0 (∀ w, Calls Try.prog 51 #[.int .u8 o] w fun e w' => e = .returned (.tuple #[.agg #[.int .u8 o', .string nm, .int .i64 a, .int .u32 b, .int .u32 c, .int .u32 d], .bool is]) ∧ Below w.heap.size w w')) (w : World) :
    Calls Try.prog 31 #[.int .u8 o] w fun e w' => e = .returned (.tuple #[.string nm, .bool is]) ∧ Below w.heap.size w w' := by
  go_enter Try.func31, Try.ntmps31
  go_wp2_with fail
  refine (RC.out _).mono ?_
  rintro e w1 ⟨rfl, hb⟩
  have HB : Aside0 (Below w.heap.size w w1) := ⟨hb⟩
  clear hb
  go_wp2
  go_ret2
  exact ⟨by first | rfl | simp, HB.out.alloc HB.out.size _⟩
theorem name_calls (o : Int) (h0 : 0 ≤ o) (h1 : o < 256) (w : World) : Calls Try.prog 30 #[.int .u8 o] w fun e w' => e = .returned (nameV (nameS o)) ∧ Below w.heap.size w w' := by
  by_cases ho : o = 0 ∨ 69 ≤ o
  · rw [nameS_no ho]; exact name_no o h0 h1 ho w
  · rcases ops_all o.toNat (by omega) with h | ⟨p, hp, hpo⟩
    · omega
    · obtain ⟨k, i⟩ := p
      obtain ⟨hk, hi⟩ := of_pairs hp
      have e : o = (fam k).first + i := by rw [show o = (o.toNat : Int) from by omega, ← hpo]; rfl
      have e2 : nameS o = (nameP (k, i), true) := by rw [e]; exact nameS_of hp
      rw [e2, e]
      exact name_yes k i hk hi w
theorem rname_calls (o : Int) (h0 : 0 ≤ o) (h1 : o < 256) (w : World) : Calls Try.prog 31 #[.int .u8 o] w fun e w' => e = .returned (nameV (nameS o)) ∧ Below w.heap.size w w' := by
  by_cases ho : o = 0 ∨ 69 ≤ o
  · rw [nameS_no ho]; exact rname_any o _ _ _ _ _ _ _ ⟨row_no o h0 h1 ho⟩ w
  · obtain ⟨j, hj, rfl⟩ : ∃ j : Nat, j < 68 ∧ o = (j : Int) + 1 := ⟨(o - 1).toNat, by omega, by omega⟩
    obtain ⟨hp, hop, hnm, _⟩ := row_facts1 j hj
    have e2 := nameS_of hp
    rw [hop] at e2
    rw [e2, hnm]
    exact rname_any _ _ _ _ _ _ _ _ ⟨row_yes j hj⟩ w
set_option maxHeartbeats 8000000 in
set_option maxRecDepth 100000 in
theorem named_yes (k i0 : Nat) (hk : k < 18) (hi0 : i0 < (fam k).words.length) (s : ByteArray) (hit : nameP (k, i0) = s) (w : World) : Calls Try.prog 32 #[.string s] w fun e w' => e = .returned (.tuple #[.int .u8 (opP (k, i0)), .bool true]) ∧ Below w.heap.size w w' := by
  have HK : Aside0 (k < 18 ∧ i0 < (fam k).words.length) := ⟨hk, hi0⟩
  have HN : Aside0 (∀ p ∈ pairs, p ≠ (k, i0) → nameP p ≠ s) := ⟨fun p hp hne h => hne (names_apart p hp _ (mem_pairs hk hi0) (h.trans hit.symm))⟩
  have HIT := Aside0.mk hit
  obtain ⟨o, ho⟩ : ∃ o, opP (k, i0) = o := ⟨_, rfl⟩
  rw [ho]
  have HO := Aside0.mk ho
  clear hit hk hi0 ho
  go_enter Try.func32, Try.ntmps32
  go_wp2_with fail
  refine (families_calls _).mono ?_
  rintro e w1 ⟨v, rfl, hF, hb⟩
  obtain ⟨g, rfl, hF2⟩ := hF
  have hF : Aside0 (FamsAt w1 (.slice (some ⟨g, 0, none⟩) 18 18)) := ⟨⟨g, rfl, hF2⟩⟩
  have hB : Aside0 (Below w.heap.size w w1) := ⟨hb⟩
  clear hb hF2
  go_wp2
  go_loopw [10] (fun v10 wr => ∃ j : Nat, v10 = .int .i64 j ∧ Aside0 (j ≤ k) ∧ Aside0 (FamsAt wr (.slice (some ⟨g, 0, none⟩) 18 18)) ∧ Aside0 (Below w.heap.size w wr)) (fun v10 _ => 18 - (intOf v10).toNat)
  case atStart => exact ⟨0, rfl, ⟨Nat.zero_le _⟩, hF, hB⟩
  case round =>
    clear hF hB
    obtain ⟨j, rfl, HJ, hF, hB⟩ := hrel
    have hj18 : j < 18 := by have := HJ.out; have := HK.out.1; omega
    obtain ⟨A, c, A', c', q0, q1, q2, q3, hs, hw⟩ := hF.out.get j hj18
    have hglt := hF.out.lt
    have hnl : (fam j).names.length = (fam j).words.length := (fam_bounds j hj18).2.2.2.2
    have hL10 : (fam j).words.length ≤ 10 := (fam_bounds j hj18).2.2.1
    obtain ⟨F, hFF⟩ : ∃ F, (fam j).first = F := ⟨_, rfl⟩
    obtain ⟨fn, hfn⟩ : ∃ n, fnOf (fam j).form = n := ⟨_, rfl⟩
    obtain ⟨L, hL⟩ : ∃ n, (fam j).names.length = n := ⟨_, rfl⟩
    obtain ⟨L2, hL2⟩ : ∃ n, (fam j).words.length = n := ⟨_, rfl⟩
    rw [hFF] at q0
    rw [hfn] at q1
    rw [hL] at q2 hs
    rw [hL2] at q3 hw
    have HS := Aside0.mk hs
    have HL : Aside0 ((fam j).names.length = L ∧ (fam j).words.length = L ∧ j < 18 ∧ L ≤ 10 ∧ (fam j).first = F) := ⟨hL, by omega, hj18, by omega, hFF⟩
    have hlen : L ≤ 10 := by omega
    clear hs hw hnl hL10 hFF hfn hL hL2
    go_wp2
    generalize hW3 : wr.alloc (Obj.cells #[.int .u8 F, .func (.func fn) #[] #[], .slice A L c, .slice A' L2 c'] 69) = W3
    have HB3 : Aside0 (Below wr.heap.size wr W3) := ⟨by rw [← hW3]; exact below_alloc (Below.refl _ _) _⟩
    have HS3 : Aside0 (RowS W3 (.slice A L c) (fam j).names) := ⟨HS.out.below HB3.out⟩
    have t0 : W3.cell? ⟨wr.heap.size, 0, none⟩ = some (.int .u8 F) := by rw [← hW3]; simp [go_sem]
    have hz3 : wr.heap.size < W3.heap.size := by rw [← hW3]; simp
    clear hW3 q0 q1 q2 q3
    go_loopw [17] (fun v17 ws => ∃ i : Nat, v17 = .int .i64 i ∧ Aside0 (W3 = ws) ∧ Aside0 (i ≤ L ∧ (j = k → i ≤ i0))) (fun v17 _ => L - (intOf v17).toNat)
    case atStart => exact ⟨0, rfl, ⟨rfl⟩, ⟨Nat.zero_le _, fun _ => Nat.zero_le _⟩⟩
    case round =>
      obtain ⟨i, rfl, hws, HI⟩ := hrel
      obtain ⟨hws⟩ := hws
      subst hws
      by_cases hiL : i < L
      · have hin : i < (fam j).names.length := by rw [HL.out.1]; exact hiL
        have hiw : i < (fam j).words.length := by rw [HL.out.2.1]; exact hiL
        obtain ⟨_, ad, rfl, hcell⟩ := HS3.out.far_read i hin
        have hnm : (fam j).names.getD i ByteArray.empty = nameP (j, i) := rfl
        rw [hnm] at hcell
        obtain ⟨nm, hnm2⟩ : ∃ x, nameP (j, i) = x := ⟨_, rfl⟩
        rw [hnm2] at hcell
        have hil : (i : Int) < (L : Int) := by omega
        clear hnm
        by_cases hh : j = k ∧ i = i0
        · obtain ⟨rfl, rfl⟩ := hh
          have hns : nm = s := by rw [← hnm2]; exact HIT.out
          subst hns
          have hop : (F + (i : Int)) % 256 = opP (j, i) ∧ F + i = opP (j, i) ∧ 0 ≤ F ∧ F < 256 := by
            have h := (words_in (j, i) (mem_pairs HL.out.2.2.1 hiw)).2.2.2.2
            have e : opP (j, i) = F + i := by rw [← HL.out.2.2.2.2]; rfl
            have h2 := fam_bounds j HL.out.2.2.1
            have h3 := HL.out.2.2.2.2
            rw [e] at h ⊢; omega
          have hi8 : (i : Int) % 256 = i := by have := HL.out.2.2.2.1; omega
          rw [HO.out] at hop
          obtain ⟨o1, o2, o3, o4⟩ := hop
          have o5 : IntKind.u8.wrap (F + IntKind.u8.wrap (i : Int)) = o := by rw [IntKind.wrap_u8, IntKind.wrap_u8, hi8]; exact o1
          clear HN HIT
          go_wp2
          go_ret2
          exact ⟨by first | rfl | (simp; done) | (simp [o1, o2, hi8]; done), hB.out.trans (HB3.out.mono hB.out.size)⟩
        · have hne0 : ¬ nm = s := by
            have h := HN.out (j, i) (mem_pairs HL.out.2.2.1 hiw) (fun e => hh (by simpa using e))
            rw [hnm2] at h
            exact h
          have hne := bytes_ne hne0
          go_wp2
          refine ⟨⟨i + 1, by go_num, ⟨by first | exact trivial | rfl⟩, ⟨by omega, fun e => by have := HI.out.2 e; have := fun q => hh ⟨e, q⟩; omega⟩⟩, by simp [intOf]; omega⟩
      · have hiL2 : i = L := by have := HI.out.1; omega
        subst hiL2
        have hjk : j < k := by
          have h1 := HJ.out
          rcases Nat.lt_or_ge j k with h | h
          · exact h
          · have e : j = k := by omega
            have h2 := HI.out.2 e
            have h3 := HK.out.2
            have h4 := HL.out.2.1
            rw [e] at h4
            omega
        go_wp2
        refine ⟨⟨j + 1, by go_num, ⟨hjk⟩, ⟨hF.out.below HB3.out⟩, ⟨hB.out.trans (HB3.out.mono hB.out.size)⟩⟩, by simp [intOf]; omega⟩
set_option maxHeartbeats 8000000 in
set_option maxRecDepth 100000 in
theorem named_no  (s : ByteArray) (hno : ∀ p ∈ pairs, nameP p ≠ s) (w : World) : Calls Try.prog 32 #[.string s] w fun e w' => e = .returned (.tuple #[.int .u8 (0), .bool false]) ∧ Below w.heap.size w w' := by
  have HN := Aside0.mk hno
  clear hno
  go_enter Try.func32, Try.ntmps32
  go_wp2_with fail
  refine (families_calls _).mono ?_
  rintro e w1 ⟨v, rfl, hF, hb⟩
  obtain ⟨g, rfl, hF2⟩ := hF
  have hF : Aside0 (FamsAt w1 (.slice (some ⟨g, 0, none⟩) 18 18)) := ⟨⟨g, rfl, hF2⟩⟩
  have hB : Aside0 (Below w.heap.size w w1) := ⟨hb⟩
  clear hb hF2
  go_wp2
  go_loopw [10] (fun v10 wr => ∃ j : Nat, v10 = .int .i64 j ∧ Aside0 (j ≤ 18) ∧ Aside0 (FamsAt wr (.slice (some ⟨g, 0, none⟩) 18 18)) ∧ Aside0 (Below w.heap.size w wr)) (fun v10 _ => 18 - (intOf v10).toNat)
  case atStart => exact ⟨0, rfl, ⟨Nat.zero_le _⟩, hF, hB⟩
  case round =>
    clear hF hB
    obtain ⟨j, rfl, HJ, hF, hB⟩ := hrel
    by_cases hj18 : j < 18
    · skip
      obtain ⟨A, c, A', c', q0, q1, q2, q3, hs, hw⟩ := hF.out.get j hj18
      have hglt := hF.out.lt
      have hnl : (fam j).names.length = (fam j).words.length := (fam_bounds j hj18).2.2.2.2
      have hL10 : (fam j).words.length ≤ 10 := (fam_bounds j hj18).2.2.1
      obtain ⟨F, hFF⟩ : ∃ F, (fam j).first = F := ⟨_, rfl⟩
      obtain ⟨fn, hfn⟩ : ∃ n, fnOf (fam j).form = n := ⟨_, rfl⟩
      obtain ⟨L, hL⟩ : ∃ n, (fam j).names.length = n := ⟨_, rfl⟩
      obtain ⟨L2, hL2⟩ : ∃ n, (fam j).words.length = n := ⟨_, rfl⟩
      rw [hFF] at q0
      rw [hfn] at q1
      rw [hL] at q2 hs
      rw [hL2] at q3 hw
      have HS := Aside0.mk hs
      have HL : Aside0 ((fam j).names.length = L ∧ (fam j).words.length = L ∧ j < 18 ∧ L ≤ 10 ∧ (fam j).first = F) := ⟨hL, by omega, hj18, by omega, hFF⟩
      have hlen : L ≤ 10 := by omega
      clear hs hw hnl hL10 hFF hfn hL hL2
      go_wp2
      generalize hW3 : wr.alloc (Obj.cells #[.int .u8 F, .func (.func fn) #[] #[], .slice A L c, .slice A' L2 c'] 69) = W3
      have HB3 : Aside0 (Below wr.heap.size wr W3) := ⟨by rw [← hW3]; exact below_alloc (Below.refl _ _) _⟩
      have HS3 : Aside0 (RowS W3 (.slice A L c) (fam j).names) := ⟨HS.out.below HB3.out⟩
      have t0 : W3.cell? ⟨wr.heap.size, 0, none⟩ = some (.int .u8 F) := by rw [← hW3]; simp [go_sem]
      have hz3 : wr.heap.size < W3.heap.size := by rw [← hW3]; simp
      clear hW3 q0 q1 q2 q3
      go_loopw [17] (fun v17 ws => ∃ i : Nat, v17 = .int .i64 i ∧ Aside0 (W3 = ws) ∧ Aside0 (i ≤ L)) (fun v17 _ => L - (intOf v17).toNat)
      case atStart => exact ⟨0, rfl, ⟨rfl⟩, ⟨Nat.zero_le _⟩⟩
      case round =>
        obtain ⟨i, rfl, hws, HI⟩ := hrel
        obtain ⟨hws⟩ := hws
        subst hws
        by_cases hiL : i < L
        · have hin : i < (fam j).names.length := by rw [HL.out.1]; exact hiL
          have hiw : i < (fam j).words.length := by rw [HL.out.2.1]; exact hiL
          obtain ⟨_, ad, rfl, hcell⟩ := HS3.out.far_read i hin
          have hnm : (fam j).names.getD i ByteArray.empty = nameP (j, i) := rfl
          rw [hnm] at hcell
          obtain ⟨nm, hnm2⟩ : ∃ x, nameP (j, i) = x := ⟨_, rfl⟩
          rw [hnm2] at hcell
          have hil : (i : Int) < (L : Int) := by omega
          clear hnm
          have hne0 : ¬ nm = s := by
            have h := HN.out (j, i) (mem_pairs HL.out.2.2.1 hiw)
            rw [hnm2] at h
            exact h
          have hne := bytes_ne hne0
          go_wp2
          refine ⟨⟨i + 1, by go_num, ⟨by first | exact trivial | rfl⟩, ⟨by omega⟩⟩, by simp [intOf]; omega⟩
        · have hiL2 : i = L := by have := HI.out; omega
          subst hiL2
          go_wp2
          refine ⟨⟨j + 1, by go_num, ⟨hj18⟩, ⟨hF.out.below HB3.out⟩, ⟨hB.out.trans (HB3.out.mono hB.out.size)⟩⟩, by simp [intOf]; omega⟩
    · have e : j = 18 := by have := HJ.out; omega
      subst e
      go_wp2
      go_ret2
      exact ⟨by first | rfl | simp, hB.out⟩
set_option maxHeartbeats 8000000 in
set_option maxRecDepth 100000 in
theorem rnamed_yes (j0 : Nat) (hj0 : j0 < 68) (s : ByteArray) (hit : (row5 j0).name = s) (w : World) : Calls Try.prog 33 #[.string s] w fun e w' => e = .returned (.tuple #[.int .u8 ((j0 : Int) + 1), .bool true]) ∧ Below w.heap.size w w' := by
  have HJ0 := Aside0.mk hj0
  have HN : Aside0 (∀ j, j < 68 → j ≠ j0 → (row5 j).name ≠ s) := ⟨fun j hj hne h => hne (by
    obtain ⟨hp, hop, hnm, _⟩ := row_facts1 j hj
    obtain ⟨hp', hop', hnm', _⟩ := row_facts1 j0 hj0
    have e := names_apart _ hp _ hp' (by rw [hnm, hnm', h, hit])
    rw [e] at hop
    omega)⟩
  have HIT := Aside0.mk hit
  clear hit hj0
  go_enter Try.func33, Try.ntmps33
  go_wp2_with fail
  refine (table_calls _).mono ?_
  rintro e w1 ⟨g, rfl, hF, hb⟩
  have HF : Aside0 (RowsAt w1 g) := ⟨hF⟩
  have HB : Aside0 (Below w.heap.size w w1) := ⟨hb⟩
  clear hb hF
  go_wp2
  go_loopw [5] (fun v5 wr => ∃ j : Nat, v5 = .int .i64 j ∧ Aside0 (w1 = wr) ∧ Aside0 (j ≤ j0)) (fun v5 _ => 68 - (intOf v5).toNat)
  case atStart => exact ⟨0, rfl, ⟨rfl⟩, ⟨Nat.zero_le _⟩⟩
  case round =>
    obtain ⟨j, rfl, hws, HJ⟩ := hrel
    obtain ⟨hws⟩ := hws
    subst hws
    have hj68 : j < 68 := by have := HJ.out; have := HJ0.out; omega
    obtain ⟨r0, r1, r2, r3, r4, r5⟩ := HF.out.get j hj68
    by_cases hjk : j < j0
    · have hne0 : ¬ (row5 j).name = s := HN.out j hj68 (by omega)
      have hne := bytes_ne hne0
      generalize (row5 j).name = nm at *
      go_wp2
      refine ⟨⟨j + 1, by go_num, ⟨by first | exact trivial | rfl⟩, ⟨by omega⟩⟩, by simp [intOf]; omega⟩
    · have e : j = j0 := by have := HJ.out; omega
      subst e
      have hns := HIT.out
      rw [hns] at r1
      clear HN HIT hns
      go_wp2
      go_ret2
      exact ⟨by first | rfl | simp, HB.out⟩
set_option maxHeartbeats 8000000 in
set_option maxRecDepth 100000 in
theorem rnamed_no  (s : ByteArray) (hno : ∀ j, j < 68 → (row5 j).name ≠ s) (w : World) : Calls Try.prog 33 #[.string s] w fun e w' => e = .returned (.tuple #[.int .u8 (0), .bool false]) ∧ Below w.heap.size w w' := by
  have HN := Aside0.mk hno
  clear hno
  go_enter Try.func33, Try.ntmps33
  go_wp2_with fail
  refine (table_calls _).mono ?_
  rintro e w1 ⟨g, rfl, hF, hb⟩
  have HF : Aside0 (RowsAt w1 g) := ⟨hF⟩
  have HB : Aside0 (Below w.heap.size w w1) := ⟨hb⟩
  clear hb hF
  go_wp2
  go_loopw [5] (fun v5 wr => ∃ j : Nat, v5 = .int .i64 j ∧ Aside0 (w1 = wr) ∧ Aside0 (j ≤ 68)) (fun v5 _ => 68 - (intOf v5).toNat)
  case atStart => exact ⟨0, rfl, ⟨rfl⟩, ⟨Nat.zero_le _⟩⟩
  case round =>
    obtain ⟨j, rfl, hws, HJ⟩ := hrel
    obtain ⟨hws⟩ := hws
    subst hws
    by_cases hj68 : j < 68
    · obtain ⟨r0, r1, r2, r3, r4, r5⟩ := HF.out.get j hj68
      have hne0 : ¬ (row5 j).name = s := HN.out j hj68
      have hne := bytes_ne hne0
      generalize (row5 j).name = nm at *
      go_wp2
      refine ⟨⟨j + 1, by go_num, ⟨by first | exact trivial | rfl⟩, ⟨by omega⟩⟩, by simp [intOf]; omega⟩
    · have e : j = 68 := by have := HJ.out; omega
      subst e
      go_wp2
      go_ret2
      exact ⟨by first | rfl | simp, HB.out⟩
theorem named_calls (s : ByteArray) (w : World) : Calls Try.prog 32 #[.string s] w fun e w' => e = .returned (namedV (namedS s)) ∧ Below w.heap.size w w' := by
  by_cases h : ∃ p ∈ pairs, nameP p = s
  · obtain ⟨⟨k, i⟩, hp, hs⟩ := h
    obtain ⟨hk, hi⟩ := of_pairs hp
    rw [← hs, namedS_of hp]
    exact named_yes k i hk hi _ rfl w
  · have hn : ∀ p ∈ pairs, nameP p ≠ s := fun p hp hs => h ⟨p, hp, hs⟩
    rw [namedS_no hn]
    exact named_no s hn w
theorem rows_all : ∀ p ∈ pairs, ∃ j, j < 68 ∧ pairs.getD j (0, 0) = p := by decide +kernel
theorem rnamed_calls (s : ByteArray) (w : World) : Calls Try.prog 33 #[.string s] w fun e w' => e = .returned (namedV (namedS s)) ∧ Below w.heap.size w w' := by
  by_cases h : ∃ p ∈ pairs, nameP p = s
  · obtain ⟨p, hp, hs⟩ := h
    obtain ⟨j, hj, rfl⟩ := rows_all p hp
    obtain ⟨_, hop, hnm, _⟩ := row_facts1 j hj
    have e := namedS_of hp
    rw [hop, hnm] at e
    rw [← hs, hnm, e]
    exact rnamed_yes j hj _ rfl w
  · have hn : ∀ p ∈ pairs, nameP p ≠ s := fun p hp hs => h ⟨p, hp, hs⟩
    rw [namedS_no hn]
    exact rnamed_no s (fun j hj hs => hn _ (row_facts1 j hj).1 ((row_facts1 j hj).2.2.1.trans hs)) w
end Go.Proofs.Ythkbjoglhfclmaa.Ins
