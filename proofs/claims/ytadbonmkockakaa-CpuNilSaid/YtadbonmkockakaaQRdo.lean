/- The machine's run where an instruction is fetched, by do's contract. Written by wip/r5/rdo.py. -/
import Derived.Test.YtadbonmkockakaaQMd
import Derived.Test.YtadbonmkockakaaQInsG1
namespace Go.Proofs.Ytadbonmkockakaa.Cp
open Go.RowKit Go.Proofs.YtadbonmkockakaaW.PrintWords Go.Proofs.YtadbonmkockakaaW.PrintLast Go.Proofs.YtadbonmkockakaaW.PrintMore Go.Proofs.Ytadbonmkockakaa.QCb Go.Proofs.Ytadbonmkockakaa.QCe
open Go.Proofs.Ytadbonmkockakaa.Ins (I5 getS getV)
set_option linter.unusedVariables false
set_option linter.unusedSimpArgs false
theorem loadS_in (M : Mem) (hM : MemOk M) (a k : Nat) (hk : k ≤ 4) : 0 ≤ loadS M a k ∧ loadS M a k < 256 ^ k := by
  have h := le_in _ (bytesAt_8 M hM a k)
  rw [bytesAt_len] at h
  exact h
def insL (i : I5) : List Value := [.int .u8 i.op, .int .u8 i.rd, .int .u8 i.rs1, .int .u8 i.rs2, .int .i32 i.imm]
/-- The machine with the next Pcc, and what is touched. -/
def nextM (x : Mc) (tv : Value) : Mc := { x with tv := tv, now := { x.now with pcc := setAddrS x.was.pcc ((x.was.pcc.addr + 4) % 4294967296) } }
theorem size24 : (Try.prog.info? 74).map (·.size) = some 5 := by kernel_rfl
set_option maxRecDepth 100000 in
set_option maxHeartbeats 8000000 in
theorem run_do (g : Nat) (x : Mc) (M M' : Mem) (hM : MemOk M) (ok : OkC x.was.pcc) (hf : fetchS x.was.pcc = true) (i : I5) (hget : getS (loadS M x.was.pcc.addr.toNat 4) = (i, 0)) (htv : x.tv = .slice none 0 0) (y : Value → Mc) (T : List Tch)
    (w : World) (hx : BL w g 51 (mcL x)) (hm : MemB w x.m M)
    (hdo : ∀ tv w1, w.heap.size ≤ w1.heap.size → BL w1 g 51 (mcL (nextM x tv)) → MemB w1 x.m M → k52.R 54 w1 w.heap.size (fun _ => True) tv [⟨1, x.was.pcc.addr, 4⟩] → Calls Try.prog 25 #[.pointer (some ⟨g, 0, none⟩), .agg (insL i).toArray] w1 fun e w2 => e = .returned (.tuple #[]) ∧ Fix (fun k => k = g ∨ k = x.m ∨ some k = tv.ownBlock) w1 w2 ∧ ∃ tv2, BL w2 g 51 (mcL (y tv2)) ∧ MemB w2 x.m M' ∧ k52.R 54 w2 w.heap.size (fun _ => True) tv2 T) :
    Calls Try.prog 10 #[.pointer (some ⟨g, 0, none⟩)] w fun e w' => e = .returned (.int .u32 0) ∧ Fix (fun k => k = g ∨ k = x.m) w w' ∧ ∃ tv2, BL w' g 51 (mcL (y tv2)) ∧ MemB w' x.m M' ∧ k52.R 54 w' w.heap.size (fun _ => True) tv2 T := by
  have HX := Aside0.mk hx
  have HMB := Aside0.mk hm
  have HDO := Aside0.mk hdo
  have HGM : Aside0 (g ≠ x.m) := ⟨fun e => by obtain ⟨cells, h1, _⟩ := hm; rw [← e, show w.heap[g]? = _ from hx] at h1; injection h1 with h1; injection h1 with _ h1; cases h1⟩
  obtain ⟨⟨tag, a, p, ty, e, b, t⟩, hp⟩ : ∃ c, x.was.pcc = c := ⟨_, rfl⟩
  have HP := Aside0.mk hp
  rw [hp] at ok hf hget
  have ha : 0 ≤ a ∧ a < 4294967296 := ok.1
  have hf1 : mayS ⟨tag, a, p, ty, e, b, t⟩ 8 a 4 = true ∧ a % 4 = 0 ∧ a < 65280 := by
    unfold fetchS at hf
    simp only [Bool.and_eq_true, beq_iff_eq, decide_eq_true_eq] at hf
    exact ⟨hf.1, hf.2.1, hf.2.2⟩
  obtain ⟨n, rfl⟩ : ∃ n : Nat, a = (n : Int) := ⟨a.toNat, by omega⟩
  have hmay := fun w => may_calls tag (n : Int) p ty e b t ok 8 (n : Int) 4 (by decide) (by omega) (by decide) w
  simp only [hf1.1] at hmay
  have HM1 := Aside0.mk hmay
  simp only [Int.toNat_natCast] at hget
  have hld := loadS_in M hM n 4 (by decide)
  obtain ⟨wd, hwd⟩ : ∃ v, loadS M n 4 = v := ⟨_, rfl⟩
  rw [hwd] at hget hld
  have HL : Aside0 (∀ w, MemB w x.m M → Calls Try.prog 7 #[.pointer (some ⟨x.m, 0, none⟩), .int .u32 (n : Int), .int .i64 4] w fun e w' => e = .returned (.tuple #[.int .u32 wd, .int .i64 0]) ∧ Below w.heap.size w w') := ⟨fun w h => by rw [← hwd]; exact load_calls x.m n 4 M hM (by omega) (by omega) (by omega) w h⟩
  obtain ⟨i0, i1, i2, i3, i4⟩ := i
  have hgc := fun w => Go.Proofs.Ytadbonmkockakaa.Ins.get_calls wd hld.1 (by simpa using hld.2) w
  simp only [hget] at hgc
  have HG : Aside0 (∀ w, Calls Try.prog 23 #[.int .u32 wd] w fun e w' => e = .returned (.tuple #[.agg #[.int .u8 i0, .int .u8 i1, .int .u8 i2, .int .u8 i3, .int .i32 i4], .int .i64 0]) ∧ Below w.heap.size w w') := ⟨hgc⟩
  obtain ⟨⟨u0, u1, u2, u3, u4, u5, u6⟩, hu6⟩ : ∃ c, setAddrS ⟨tag, (n : Int), p, ty, e, b, t⟩ (((n : Int) + 4) % 4294967296) = c := ⟨_, rfl⟩
  have HU := Aside0.mk hu6
  have HOK := Aside0.mk ok
  have HTV := Aside0.mk htv
  have HFR : Aside0 (∀ tv w, BL w g 51 (mcL { x with tv := tv }) → Calls Try.prog 24 #[.pointer (some ⟨g, 0, none⟩), .int .i32 4] w fun e w' => e = .returned (.agg #[.bool u0, .int .u32 u1, .int .u8 u2, .int .u8 u3, .int .u8 u4, .int .u16 u5, .int .u16 u6]) ∧ Below w.heap.size w w') := ⟨fun tv w h => by have h2 := from_calls g { x with tv := tv } 4 (by show OkC x.was.pcc; rw [hp]; exact ok) w h; rw [show ({ x with tv := tv } : Mc).was.pcc = _ from hp] at h2; rw [hu6] at h2; exact h2⟩
  have HNX : Aside0 (∀ tv, nextM x tv = { x with tv := tv, now := { x.now with pcc := ⟨u0, u1, u2, u3, u4, u5, u6⟩ } }) := ⟨fun tv => by unfold nextM; rw [hp]; simp only []; rw [hu6]⟩
  have hmf : ∀ (fn : Fn) (first cap : Array Value) (w : World), (Instr.makeFunc fn first cap).run Try.prog w = .ok (.func fn first cap) w := fun _ _ _ _ => rfl
  have hu : (n : Int) % 18446744073709551616 = (n : Int) := by omega
  have hr : Int.tmod (n : Int) 4 = 0 := by rw [Int.tmod_eq_emod_of_nonneg (by omega)]; exact hf1.2.1
  have d5 : decide (65280 ≤ (n : Int)) = false := decide_eq_false (by omega)
  have d6 : decide (65280 ≤ n) = false := decide_eq_false (by omega)
  clear hx hm hdo hp ok hf hget hf1 hmay hwd hgc hu6 hM ha hld htv
  go_enter_defers Try.func10, Try.ntmps10
  go_upto_region 2 with fail
  generalize hw1 : w.alloc (Obj.cells #[.int .u32 0] 22) = w1
  have HB1 : Aside0 (Below w.heap.size w w1) := ⟨by rw [← hw1]; exact below_alloc (Below.refl _ _) _⟩
  have K1 : Aside0 (BL w1 w.heap.size 22 [.int .u32 0]) := ⟨by rw [← hw1]; exact BL.new _ _ _⟩
  have hx1 := HX.out.below HB1.out
  have e0 := hx1.cell 113 _ rfl
  have e1 := hx1.cell 114 _ rfl
  have e2 := hx1.cell 115 _ rfl
  have e3 := hx1.cell 116 _ rfl
  have e4 := hx1.cell 117 _ rfl
  have e5 := hx1.cell 118 _ rfl
  have e6 := hx1.cell 119 _ rfl
  rw [HP.out] at e0 e1 e2 e3 e4 e5 e6
  simp only [] at e0 e1 e2 e3 e4 e5 e6
  clear hw1 hx1
  go_upto_region 5 with (first | (go_at_call 20; (with_reducible refine (HM1.out _).mono ?_); rintro _ w2 ⟨rfl, hb⟩; have K2 := Aside0.mk (K1.out.below hb); have HB2 := Aside0.mk (HB1.out.trans (hb.mono HB1.out.size)); clear hb))
  have m0 := (HX.out.below HB2.out).cell 0 _ rfl
  clear hr d5 d6 hu e0 e1 e2 e3 e4 e5 e6
  go_upto_region 6 with (first | (go_at_call 7; (with_reducible refine (HL.out _ (HMB.out.below HB2.out)).mono ?_); rintro _ w3 ⟨rfl, hb⟩; have K3 := Aside0.mk (K2.out.below hb); have HB3 := Aside0.mk (HB2.out.trans (hb.mono HB2.out.size)); clear hb))
  have hx3 := HX.out.below HB3.out
  have HTC := Aside0.mk (touch_calls g x 1 (n : Int) 4 [] (by decide) w3 w.heap.size HB3.out.size hx3 (by rw [HTV.out]; exact Kd.R_nil _ _ _ _ _))
  clear hx3 m0
  go_upto_region 7 with (first | (go_at_call 22; (with_reducible refine HTC.out.mono ?_); rintro _ w4 ⟨rfl, tv, hb4, hr4, hf4⟩; rw [HTV.out] at hf4; have HX4 := Aside0.mk hb4; have HR4 := Aside0.mk hr4; have HF4 : Aside0 (Fix (· = g) w3 w4) := ⟨hf4.mono (fun k hk => by rcases hk with h | h <;> first | exact h | cases h)⟩; clear hb4 hr4 hf4))
  have F4 := Aside0.mk ((Fix.of HB3.out).trans HF4.out)
  have HGL : Aside0 (g < w.heap.size) := ⟨HX.out.lt⟩
  have K4 := Aside0.mk (K3.out.fix HF4.out (by have := HGL.out; show ¬ _ = _; omega))
  have MB4 := Aside0.mk ((HMB.out.below HB3.out).fix HF4.out (by have := HGM.out; show ¬ _ = _; exact fun h => this h.symm))
  clear HTC K1 K2 K3 HB1 HB2 HF4
  go_upto_region 8 with (first | (go_at_call 23; (with_reducible refine (HG.out _).mono ?_); rintro _ w5 ⟨rfl, hb⟩; have HB5 := Aside0.mk hb; clear hb))
  generalize hw6 : w5.alloc (Obj.cells #[.int .u8 i0, .int .u8 i1, .int .u8 i2, .int .u8 i3, .int .i32 i4] 74) = w6
  have HB6 : Aside0 (Below w4.heap.size w4 w6) := ⟨by rw [← hw6]; exact below_alloc HB5.out _⟩
  have I6 : Aside0 (BL w6 w5.heap.size 74 (insL ⟨i0, i1, i2, i3, i4⟩)) := ⟨by rw [← hw6]; exact BL.new _ _ _⟩
  have HX6 := Aside0.mk (HX4.out.below HB6.out)
  clear hw6
  go_upto_region 10 with fail
  go_upto_region 11 with (first | (go_at_call 24; (with_reducible refine (HFR.out tv _ HX6.out).mono ?_); rintro _ w7 ⟨rfl, hb⟩; have HB7 := Aside0.mk (HB6.out.trans (hb.mono HB6.out.size)); have I7 := Aside0.mk (I6.out.below hb); have HX7 := Aside0.mk (HX6.out.below hb); clear hb) | ((with_reducible refine wps_agg rfl 27 (.tmp 59) (.tmp 56) rfl HX7.out ?off_1 ?cs_1 ?hx_1 ?hy_1 ?hi_1 ?h1_1 ?hl_1 (mcL { x with tv := tv, now := { x.now with pcc := ⟨u0, u1, u2, u3, u4, u5, u6⟩ } }) ?hL_1 ?_); (case hx_1 => rfl); (case hy_1 => rfl); (case hi_1 => exact size31); (case h1_1 => simp [Value.oneCell']); (case hl_1 => exact Nat.le_of_ble_eq_true rfl); (case hL_1 => rfl); intro w9 hb9 hf9; have HX8 := Aside0.mk hb9; have HF8 := Aside0.mk hf9; clear hb9 hf9))
  have HXN : Aside0 (BL w9 g 51 (mcL (nextM x tv))) := ⟨by rw [HNX.out tv]; exact HX8.out⟩
  have hpa : x.was.pcc.addr = (n : Int) := by rw [HP.out]
  have HS4 : Aside0 (w.heap.size ≤ w4.heap.size) := ⟨F4.out.size⟩
  have I9 := Aside0.mk (I7.out.fix HF8.out (by have := HGL.out; have := HS4.out; have := HB5.out.size; show ¬ _ = _; omega))
  have K9 := Aside0.mk ((K4.out.below HB7.out).fix HF8.out (by have := HGL.out; show ¬ _ = _; omega))
  have MB9 := Aside0.mk ((MB4.out.below HB7.out).fix HF8.out (by have := HGM.out; show ¬ _ = _; exact fun h => this h.symm))
  have hr9 := row_far (Kd.R_below HR4.out HB7.out) HX7.out HF8.out
  have hd : Calls Try.prog 25 #[.pointer (some ⟨g, 0, none⟩), .agg #[.int .u8 i0, .int .u8 i1, .int .u8 i2, .int .u8 i3, .int .i32 i4]] w9 _ := HDO.out tv w9 (Nat.le_trans HS4.out (Nat.le_trans HB7.out.size HF8.out.size)) HXN.out MB9.out (by rw [hpa]; exact hr9)
  have HD := Aside0.mk hd
  have HPT : Aside0 (some w.heap.size ≠ tv.ownBlock) := ⟨Kd.R_ne hr9 (show w9.heap[w.heap.size]? = some (.cells _ 22 (0, 0)) from K9.out) (by decide)⟩
  have HML : Aside0 (x.m < w.heap.size) := ⟨HMB.out.lt⟩
  have F9 : Aside0 (Fix (· = g) w w9) := ⟨F4.out.trans ((Fix.of HB7.out).trans HF8.out)⟩
  have HTW : Aside0 (∀ k, k < w.heap.size → some k ≠ tv.ownBlock) := ⟨fun k hk e => by obtain ⟨inner, ho⟩ := Kd.R_own hr9; have := own_base ho k e.symm; omega⟩
  have y0 := I9.out.cell 0 _ rfl
  have y1 := I9.out.cell 1 _ rfl
  have y2 := I9.out.cell 2 _ rfl
  have y3 := I9.out.cell 3 _ rfl
  have y4 := I9.out.cell 4 _ rfl
  clear hd hr9 hpa
  simp only [Act.put]
  go_upto_region 12 with (first | (go_at_call 25; (with_reducible refine HD.out.mono ?_); rintro _ w10 ⟨rfl, hf, tv2, hb, hmm, hrr⟩; have HF10 := Aside0.mk hf; have HB10 := Aside0.mk hb; have HM10 := Aside0.mk hmm; have HR10 := Aside0.mk hrr; clear hf hb hmm hrr))
  have K10 := Aside0.mk (K9.out.fix HF10.out (by have a1 := HGL.out; have a2 := HML.out; exact fun h => h.elim (fun h => by omega) (fun h => h.elim (fun h => by omega) HPT.out)))
  have p0 := K10.out.cell 0 _ rfl
  have z0 := K10.out.open_ 0
  go_wp2_with fail
  have F10 : Aside0 (Fix (fun k => k = g ∨ k = x.m) w w10) := ⟨⟨HF10.out.os.trans F9.out.os, HF10.out.tape.trans F9.out.tape, HF10.out.output.trans F9.out.output, Nat.le_trans F9.out.size HF10.out.size, fun k hk hs => (HF10.out.block k (Nat.lt_of_lt_of_le hk F9.out.size) (fun h => h.elim (fun h => hs (.inl h)) (fun h => h.elim (fun h => hs (.inr h)) (fun h => HTW.out k hk h)))).trans (F9.out.block k hk (fun h => hs (.inl h)))⟩⟩
  refine leaves_cons (f := 19) (args := #[.pointer (some ⟨w.heap.size, 0, none⟩)]) (by simp) (by simp [go_sem]) ?_
  refine (clo_idle ⟨w.heap.size, 0, none⟩ _).mono ?_
  rintro e9 u9 w11 ⟨rfl, rfl, rfl⟩
  have F11 : Aside0 (Fix (fun k => k = g ∨ k = x.m) w (w10.setCell ⟨w.heap.size, 0, none⟩ (.int .u32 0))) := ⟨⟨F10.out.os, F10.out.tape, F10.out.output, by unfold World.setCell; simpa using F10.out.size, fun k hk hs => (Below.heap_setCell _ _ _ _ (fun e => by have : k = w.heap.size := e; omega)).trans (F10.out.block k hk hs)⟩⟩
  have B11 : Aside0 (BL (w10.setCell ⟨w.heap.size, 0, none⟩ (.int .u32 0)) g 51 (mcL (y tv2))) := ⟨HB10.out.other (by have := HGL.out; omega) _ _⟩
  have M11 : Aside0 (MemB (w10.setCell ⟨w.heap.size, 0, none⟩ (.int .u32 0)) x.m M') := ⟨by obtain ⟨cells, h1, h2⟩ := HM10.out; exact ⟨cells, (Below.heap_setCell _ _ _ _ (by have := HML.out; show x.m ≠ w.heap.size; omega)).trans h1, h2⟩⟩
  have R11 : Aside0 (k52.R 54 (w10.setCell ⟨w.heap.size, 0, none⟩ (.int .u32 0)) w.heap.size (fun _ => True) tv2 T) := ⟨Kd.R_set HR10.out K10.out (by decide) 0 _⟩
  have hc := settle_cell (v := .int .u32 0) p0
  generalize w10.setCell ⟨w.heap.size, 0, none⟩ (.int .u32 0) = w12 at F11 B11 M11 R11 hc ⊢
  simp [Leaves, settle, results, Try.results10, go_sem, hc]
  exact ⟨F11.out, tv2, B11.out, M11.out, R11.out⟩
end Go.Proofs.Ytadbonmkockakaa.Cp
