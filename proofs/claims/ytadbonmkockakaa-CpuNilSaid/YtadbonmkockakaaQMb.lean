/- bytes.Clone, ends.may, Part, Get by contract. Written by wip/r5/me.py. -/
import Derived.Test.YtadbonmkockakaaQMa
import Derived.Lib.SliceRun
import Derived.Test.YtadbonmkockakaaQCex1
import Derived.Laws.Slices
import Derived.Deep.RegionWith
import Derived.Laws.IdiomCopy
namespace Go.Proofs.Ytadbonmkockakaa.Cp
open Go.RowKit Go.Proofs.YtadbonmkockakaaW.PrintWords Go.Proofs.YtadbonmkockakaaW.PrintLast Go.Proofs.YtadbonmkockakaaW.PrintMore Go.Proofs.Ytadbonmkockakaa.QCb Go.Proofs.Ytadbonmkockakaa.QCe
set_option linter.unusedVariables false
set_option linter.unusedSimpArgs false
theorem info5 : (Try.prog.info? 5).map (fun i => (i.zero, i.size, i.bytes)) = some (some (.int .u8 0), 1, 1) := by kernel_rfl
set_option maxRecDepth 100000 in
set_option maxHeartbeats 4000000 in
theorem clone_calls (ad : Addr) (c : Nat) (xs : List Int) (hc : xs.length ≤ c) (hl : xs.length ≤ 140737488355328) (w : World) (hr : (Kd.int .u8).C w (some ad) xs.length xs) :
    Calls Try.prog 45 #[.slice (some ad) xs.length c] w fun e w' => ∃ v, e = .returned v ∧ (Kd.int .u8).R 5 w' w.heap.size (fun _ => True) v xs ∧ Below w.heap.size w w' := by
  have HR := Aside0.mk hr
  clear hr
  have HB := Aside0.mk (Below.refl w.heap.size w)
  have kn := fun (w : World) (a : Option Addr) (n c : Nat) => Lib.run_eql_slice_nil (P := Try.prog) w 65 5 a n c 0 0 Try.underlying65
  go_enter Try.func45, Try.ntmps45
  go_wp2_with (first | ((with_reducible refine gate_dst (N := 5) rfl ?_); refine Kd.R_lit (Kd.int .u8) (w0 := w) w.heap.size 5 ?hg (N := 5) ?hd (xs := ([] : List Int)) (inner := []) (ok := fun _ => True) (okp := fun _ => True) ?hr ?hp (fun _ hk => hk) trivial HB.out (Nat.le_refl _) (by decide) ?_; (case hd => rfl); (case hg => rfl); (case hr => first | (go_simp; done) | (go_simp; rfl)); (case hp => exact Reps.none _ _); intro v5 w2 ho hb hg hn; have HB2 := Aside0.mk hb; have HO2 := Aside0.mk ho; clear ho hb hg hn) | ((with_reducible refine gate_builtin (b := .append) (xs := #[.tmp 5, .tmp 6]) rfl ?_); at_builtin; refine Kd.R_append_rows (Kd.int .u8) (w0 := w) w.heap.size rfl (.tmp 5) (.tmp 6) 65 5 (.int .u8 0) 1 rfl Try.underlying65 info5 rfl (by decide) (by omega) v5 ([] : List Int) xs _ _ _ (fun _ => True) (fun _ => False) rfl rfl HO2.out (Kd.C_below HR.out HB2.out) (fun _ _ h => h) (fun _ h => h.elim) (fun _ _ => trivial) HB2.out HB2.out.size (by show (0 + xs.length) * 1 ≤ _; omega) ?_; intro v6 w3 ho hb hg hat; have HB3 := Aside0.mk hb; have HO3 := Aside0.mk ho; clear ho hb hg hat))
  go_ret
  exact ⟨_, rfl, HO3.out, HB3.out⟩
theorem C_cut {w : World} {ad : Addr} {xs : List Int} (h : (Kd.int .u8).C w (some ad) xs.length xs) (i n : Nat) (hi : i + n ≤ xs.length) : (Kd.int .u8).C w (some (ad.add i)) ((xs.drop i).take n).length ((xs.drop i).take n) := by
  obtain ⟨h1, h2, h3⟩ := h
  have hl : ((xs.drop i).take n).length = n := by rw [List.length_take, List.length_drop]; omega
  refine ⟨rfl, by omega, fun hn => ⟨ad.add i, rfl, fun j p hj => ?_⟩⟩
  obtain ⟨ad', e, hc⟩ := h3 (by omega)
  injection e with e
  subst e
  have hjn : j < n := by
    have := (List.getElem?_eq_some_iff.1 hj).1
    omega
  have hj2 : xs[i + j]? = some p := by
    rw [List.getElem?_take_of_lt hjn, List.getElem?_drop] at hj
    exact hj
  obtain ⟨c, e1, e2, e3⟩ := hc (i + j) p hj2
  refine ⟨c, e1, e2, fun k u hk => ?_⟩
  have h4 := e3 k u hk
  have e5 : (ad.add i).add (j * (Kd.int .u8).sz + k) = ad.add ((i + j) * (Kd.int .u8).sz + k) := by
    rw [Addr.add_add]
    congr 1
    show i + (j * 1 + k) = (i + j) * 1 + k
    omega
  rw [e5]
  exact h4
set_option maxRecDepth 100000 in
set_option maxHeartbeats 4000000 in
theorem part_calls (ad : Addr) (c : Nat) (xs : List Int) (hc : xs.length ≤ c) (i n : Nat) (hn : 0 < n) (hi : i + n ≤ xs.length) (hl : xs.length ≤ 140737488355328) (w : World) (hr : (Kd.int .u8).C w (some ad) xs.length xs) :
    Calls Try.prog 28 #[.slice (some ad) xs.length c, .int .i64 (i : Int), .int .i64 (n : Int)] w fun e w' => ∃ v, e = .returned (.tuple #[v, .int .i64 0]) ∧ (Kd.int .u8).R 5 w' w.heap.size (fun _ => True) v ((xs.drop i).take n) ∧ Below w.heap.size w w' := by
  have hlen : ((xs.drop i).take n).length = n := by rw [List.length_take, List.length_drop]; omega
  have HC := Aside0.mk (clone_calls (ad.add i) n ((xs.drop i).take n) (by omega) (by omega) w (C_cut hr i n hi))
  rw [hlen] at HC
  have w1 : wrap64 ((xs.length : Int) - (i : Int)) = (xs.length : Int) - (i : Int) := by unfold wrap64; omega
  have w2 : wrap64 ((i : Int) + (n : Int)) = (i : Int) + (n : Int) := by unfold wrap64; omega
  have t1 : ¬ ((xs.length : Int) < (i : Int)) := by omega
  have t2 : ¬ ((xs.length : Int) - (i : Int) < (n : Int)) := by omega
  have ks : ∀ W : World, (Instr.slice 65 (.slice (some ad) xs.length c) (some (.int .i64 (i : Int))) (some (.int .i64 ((i : Int) + (n : Int)))) (some (.int .i64 ((i : Int) + (n : Int))))).run Try.prog W = .ok (.slice (some (ad.add i)) n n) W := by
    intro W
    have hel : Try.prog.elem 65 = 5 := by simp [Program.elem, Try.underlying65]
    have hu : Try.prog.underlying 65 = some (.slice (Try.prog.elem 65)) := by rw [hel]; exact Try.underlying65
    obtain ⟨i5, hi5, _, hs5, _⟩ := info_parts info5
    rw [run_slice_lhm W 65 (some ad) xs.length c hu .i64 .i64 .i64 i ((i : Int) + n) ((i : Int) + n) (by omega) (by omega) (by omega) (by omega), hel]
    have e1 : ((i : Int) + (n : Int)).toNat = i + n := by omega
    simp [sizeOf, typeInfo, hi5, hs5, sliced, Result.andThen, e1]
    omega
  clear hr hi hl hc hlen
  go_enter Try.func28, Try.ntmps28
  go_wp2_with (first | (go_at_call 45; (with_reducible refine HC.out.mono ?_); rintro _ w2 ⟨v, rfl, h1, h2⟩; have H1 := Aside0.mk h1; have H2 := Aside0.mk h2; clear h1 h2))
  exact bodyPost_ret (v := .tuple #[v, .int .i64 0]) (by simp [results, Try.results28, go_sem]) rfl ⟨v, rfl, H1.out, H2.out⟩
def leS : List Int → Int
  | [] => 0
  | b :: r => b + 256 * leS r
theorem le_snoc (l : List Int) (x : Int) : leS (l ++ [x]) = leS l + x * 256 ^ l.length := by
  induction l with
  | nil => simp [leS]
  | cons b r ih =>
    show b + 256 * leS (r ++ [x]) = b + 256 * leS r + x * 256 ^ (r.length + 1)
    rw [ih, Int.pow_succ, Int.mul_add, Int.add_assoc]
    congr 2
    rw [Int.mul_comm (256 ^ r.length) 256, Int.mul_left_comm]
def B8 (l : List Int) : Prop := ∀ x ∈ l, 0 ≤ x ∧ x < 256
theorem le_in (l : List Int) (h : B8 l) : 0 ≤ leS l ∧ leS l < 256 ^ l.length := by
  induction l with
  | nil => simp [leS]
  | cons b r ih =>
    have h1 := h b List.mem_cons_self
    have h2 := ih (fun x hx => h x (List.mem_cons_of_mem _ hx))
    have e : (256 : Int) ^ (r.length + 1) = 256 ^ r.length * 256 := Int.pow_succ ..
    show 0 ≤ b + 256 * leS r ∧ b + 256 * leS r < 256 ^ (r.length + 1)
    rw [e]
    omega
theorem or_up (x y : Int) (i : Nat) (hx : 0 ≤ x ∧ x < 2 ^ i) (hy : 0 ≤ y) (h : x + y * 2 ^ i < 18446744073709551616) : Go.bits .or .u64 x (y * 2 ^ i) = x + y * 2 ^ i := by
  obtain ⟨a, rfl⟩ := Int.eq_ofNat_of_zero_le hx.1
  obtain ⟨b, rfl⟩ := Int.eq_ofNat_of_zero_le hy
  have e : ((b : Int) * 2 ^ i) = ((b * 2 ^ i : Nat) : Int) := by simp
  have ha : a < 2 ^ i := by exact_mod_cast hx.2
  rw [e] at h ⊢
  have hk : ∀ n : Int, 0 ≤ n → n < 2 ^ 64 → IntKind.u64.wrap n = n := fun n h0 h1 => by rw [IntKind.wrap_u64]; omega
  rw [(bits_nat .u64 64 (by decide) hk a (b * 2 ^ i) (by omega) (by omega)).2, Nat.or_comm, Nat.mul_comm, ← Nat.two_pow_add_eq_or_of_lt ha b]
  omega
theorem at_B {w : World} {A : Option Addr} {xs : List Int} (h : (Kd.int .u8).C w A xs.length xs) (i : Nat) (h1 : i < xs.length) : ∃ ad, A = some ad ∧ w.cell? (ad.add i) = some (.int .u8 (xs.getD i 0)) := by
  obtain ⟨ad, c, e, _, hK, hc0⟩ := Kd.C_get h (0 : Int) (i : Int) (by omega) (by omega)
  have hK2 : c = [.int .u8 (xs.getD (i : Int).toNat 0)] := hK
  have h2 := hc0 0 _ (by rw [hK2]; rfl)
  rw [Int.toNat_natCast] at h2
  have h3 : w.cell? (ad.add (i * 1 + 0)) = some (.int .u8 (xs.getD i 0)) := h2
  rw [Nat.mul_one, Nat.add_zero] at h3
  exact ⟨ad, e, h3⟩
theorem emay_calls (n : Nat) (hn : n = 1 ∨ n = 2 ∨ n = 4 ∨ n = 8) (w : World) : Calls Try.prog 27 #[.int .i64 (n : Int)] w fun e w' => e = .returned (.bool true) ∧ Below w.heap.size w w' := by
  refine (ends_may.calls (n : Int) true w ?_).mono fun e w' h => ⟨h.1, h.2.below⟩
  rcases hn with rfl | rfl | rfl | rfl <;> rfl
set_option maxRecDepth 100000 in
set_option maxHeartbeats 4000000 in
theorem get_calls (ad : Addr) (c : Nat) (xs : List Int) (hc : xs.length ≤ c) (hB : B8 xs) (i n : Nat) (hn : n = 1 ∨ n = 2 ∨ n = 4) (hi : i + n ≤ xs.length) (hl : xs.length ≤ 140737488355328) (w : World) (hr : (Kd.int .u8).C w (some ad) xs.length xs) :
    Calls Try.prog 18 #[.slice (some ad) xs.length c, .int .i64 (i : Int), .int .i64 (n : Int)] w fun e w' => e = .returned (.tuple #[.int .u64 (leS ((xs.drop i).take n)), .int .i64 0]) ∧ Below w.heap.size w w' := by
  have HM := Aside0.mk (fun w => emay_calls n (by omega) w)
  have HP : Aside0 (∀ W, Below w.heap.size w W → Calls Try.prog 28 #[.slice (some ad) xs.length c, .int .i64 (i : Int), .int .i64 (n : Int)] W fun e w' => ∃ v, e = .returned (.tuple #[v, .int .i64 0]) ∧ (Kd.int .u8).R 5 w' W.heap.size (fun _ => True) v ((xs.drop i).take n) ∧ Below W.heap.size W w') := ⟨fun W hW => part_calls ad c xs hc i n (by omega) hi hl W (Kd.C_below hr hW)⟩
  have hlen : ((xs.drop i).take n).length = n := by rw [List.length_take, List.length_drop]; omega
  have hb8 : B8 ((xs.drop i).take n) := fun x hx => hB x (List.mem_of_mem_drop (List.mem_of_mem_take hx))
  obtain ⟨bs, hbs⟩ : ∃ b, (xs.drop i).take n = b := ⟨_, rfl⟩
  rw [hbs] at HP hlen hb8 ⊢
  have HL := Aside0.mk hlen
  have H8 := Aside0.mk hb8
  have HN := Aside0.mk hn
  clear hbs hr hB hi hl hc hlen hb8 hn
  go_enter Try.func18, Try.ntmps18
  go_wp2_with (first | (go_at_call 27; (with_reducible refine (HM.out _).mono ?_); rintro _ w1 ⟨rfl, hb⟩; have HB1 := Aside0.mk hb; clear hb) | (go_at_call 28; (with_reducible refine (HP.out _ HB1.out).mono ?_); rintro _ w2 ⟨v, rfl, h1, h2⟩; have H1 := Aside0.mk h1; have H2 : Aside0 (Below w.heap.size w w2) := ⟨HB1.out.trans (h2.mono HB1.out.size)⟩; clear h1 h2; obtain ⟨A, cc, hv, _, hC⟩ := Kd.R_reads H1.out; subst hv; have HC := Aside0.mk hC; clear hC))
  go_loop [10, 25] (fun v10 v25 => ∃ k : Nat, v25 = .int .i64 k ∧ v10 = .int .u64 (leS (bs.take k)) ∧ Aside0 (k ≤ n)) (fun _ v25 => n - (intOf v25).toNat)
  case atStart => exact ⟨0, rfl, rfl, ⟨Nat.zero_le _⟩⟩
  case round =>
    obtain ⟨k, rfl, rfl, HK⟩ := hrel
    have hlen := HL.out
    by_cases hk : k < n
    · have hkI : (k : Int) < (bs.length : Int) := by omega
      have hkn : k < bs.length := by omega
      obtain ⟨ad2, hA, e0⟩ := at_B HC.out k hkn
      subst hA
      have hb0 := H8.out (bs.getD k 0) (by rw [List.getD_eq_getElem?_getD, List.getElem?_eq_getElem hkn]; exact List.getElem_mem hkn)
      have hsn : leS (bs.take (k + 1)) = leS (bs.take k) + bs.getD k 0 * 256 ^ k := by
        rw [List.take_succ_eq_append_getElem hkn, le_snoc, List.length_take, Nat.min_eq_left (by omega), List.getD_eq_getElem?_getD, List.getElem?_eq_getElem hkn]; rfl
      have hle := le_in (bs.take k) (fun x hx => H8.out x (List.mem_of_mem_take hx))
      rw [List.length_take, Nat.min_eq_left (by omega)] at hle
      obtain ⟨y, hy⟩ : ∃ y, bs.getD k 0 = y := ⟨_, rfl⟩
      obtain ⟨A0, hA0⟩ : ∃ y, leS (bs.take k) = y := ⟨_, rfl⟩
      rw [hy] at e0 hb0 hsn
      rw [hA0] at hsn hle ⊢
      have HS := Aside0.mk hsn
      have h4 : k = 0 ∨ k = 1 ∨ k = 2 ∨ k = 3 := by have := HN.out; omega
      clear hsn hlen hy hA0
      rcases h4 with rfl | rfl | rfl | rfl
      · rw [show ad2.add 0 = ad2 by simp [Addr.add]] at e0
        have ho : Go.bits .or .u64 A0 y = A0 + y * 1 := by have := or_up A0 y 0 (by simpa using hle) hb0.1 (by simp at hle ⊢; omega); simpa using this
        have hy64 : y % 18446744073709551616 = y := by omega
        clear hle hkn
        go_wp2
        go_round
        case rel => exact ⟨1, rfl, by rw [HS.out]; simp, ⟨hk⟩⟩
        case measure => simp [intOf]; omega
      · rw [show ad2.add 1 = ⟨ad2.block, ad2.off + 1, none⟩ by simp [Addr.add]] at e0
        have ho : Go.bits .or .u64 A0 (y * 256) = A0 + y * 256 := or_up A0 y 8 (by simpa using hle) hb0.1 (by simp at hle ⊢; omega)
        have hy64 : y % 18446744073709551616 = y := by omega
        have hy65 : y * 256 % 18446744073709551616 = y * 256 := by omega
        clear hle hkn
        go_wp2
        go_round
        case rel => exact ⟨2, rfl, by rw [HS.out]; simp, ⟨hk⟩⟩
        case measure => simp [intOf]; omega
      · rw [show ad2.add 2 = ⟨ad2.block, ad2.off + 2, none⟩ by simp [Addr.add]] at e0
        have ho : Go.bits .or .u64 A0 (y * 65536) = A0 + y * 65536 := or_up A0 y 16 (by simpa using hle) hb0.1 (by simp at hle ⊢; omega)
        have hy64 : y % 18446744073709551616 = y := by omega
        have hy65 : y * 65536 % 18446744073709551616 = y * 65536 := by omega
        clear hle hkn
        go_wp2
        go_round
        case rel => exact ⟨3, rfl, by rw [HS.out]; simp, ⟨hk⟩⟩
        case measure => simp [intOf]; omega
      · rw [show ad2.add 3 = ⟨ad2.block, ad2.off + 3, none⟩ by simp [Addr.add]] at e0
        have ho : Go.bits .or .u64 A0 (y * 16777216) = A0 + y * 16777216 := or_up A0 y 24 (by simpa using hle) hb0.1 (by simp at hle ⊢; omega)
        have hy64 : y % 18446744073709551616 = y := by omega
        have hy65 : y * 16777216 % 18446744073709551616 = y * 16777216 := by omega
        clear hle hkn
        go_wp2
        go_round
        case rel => exact ⟨4, rfl, by rw [HS.out]; simp, ⟨hk⟩⟩
        case measure => simp [intOf]; omega
    · have hkn : k = bs.length := by have := HK.out; omega
      have hkI : ¬ ((k : Int) < (bs.length : Int)) := by omega
      have HT : Aside0 (leS (bs.take k) = leS bs) := ⟨by rw [hkn, List.take_length]⟩
      clear hkn hk hlen
      go_wp2
      go_ret2
      exact ⟨by rw [HT.out]; rfl, H2.out⟩
end Go.Proofs.Ytadbonmkockakaa.Cp

/- A memory of bytes and tags; New, none, number, there, Load by contract. Written by wip/r5/meb.py. -/
namespace Go.Proofs.Ytadbonmkockakaa.Cp
open Go.RowKit Go.Proofs.YtadbonmkockakaaW.PrintWords Go.Proofs.YtadbonmkockakaaW.PrintLast Go.Proofs.YtadbonmkockakaaW.PrintMore Go.Proofs.Ytadbonmkockakaa.QCb Go.Proofs.Ytadbonmkockakaa.QCe
set_option linter.unusedVariables false
set_option linter.unusedSimpArgs false
structure Mem where
  b : Nat → Int
  t : Nat → Bool
def MemOk (M : Mem) : Prop := ∀ i, 0 ≤ M.b i ∧ M.b i < 256
/-- What the cells of a memory say. -/
def MemC (cells : Array Value) (M : Mem) : Prop := cells.size = 73729 ∧ cells[0]? = some (.bool true) ∧ (∀ i, i < 65536 → cells[1 + i]? = some (.int .u8 (M.b i))) ∧ (∀ i, i < 8192 → cells[65537 + i]? = some (.bool (M.t i)))
def MemB (w : World) (g : Nat) (M : Mem) : Prop := ∃ cells, w.heap[g]? = some (.cells cells 35 (0, 0)) ∧ MemC cells M
theorem MemB.below {w w1 : World} {g : Nat} {M : Mem} (h : MemB w g M) (hb : Below w.heap.size w w1) : MemB w1 g M := by
  obtain ⟨cells, h1, h2⟩ := h
  exact ⟨cells, blkK hb h1, h2⟩
theorem MemB.lt {w : World} {g : Nat} {M : Mem} (h : MemB w g M) : g < w.heap.size := by
  obtain ⟨cells, h1, _⟩ := h
  exact (Array.getElem?_eq_some_iff.1 h1).1
theorem MemB.made {w : World} {g : Nat} {M : Mem} (h : MemB w g M) : w.cell? ⟨g, 0, none⟩ = some (.bool true) := by
  obtain ⟨cells, h1, _, h2, _⟩ := h
  unfold World.cell?
  rw [h1]; exact h2
theorem MemB.byte {w : World} {g : Nat} {M : Mem} (h : MemB w g M) (i : Nat) (hi : i < 65536) : w.cell? ⟨g, 1 + i, none⟩ = some (.int .u8 (M.b i)) := by
  obtain ⟨cells, h1, _, _, h2, _⟩ := h
  unfold World.cell?
  rw [h1]; exact h2 i hi
theorem MemB.tag {w : World} {g : Nat} {M : Mem} (h : MemB w g M) (i : Nat) (hi : i < 8192) : w.cell? ⟨g, 65537 + i, none⟩ = some (.bool (M.t i)) := by
  obtain ⟨cells, h1, _, _, _, h2⟩ := h
  unfold World.cell?
  rw [h1]; exact h2 i hi
theorem MemB.open_ {w : World} {g : Nat} {M : Mem} (h : MemB w g M) (j : Nat) : w.frozen? ⟨g, j, none⟩ = false := by
  obtain ⟨cells, h1, _⟩ := h
  unfold World.frozen?
  rw [h1]; simp
def bytesAt (M : Mem) (at_ n : Nat) : List Int := (List.range n).map fun i => M.b (at_ + i)
theorem bytesAt_len (M : Mem) (a n : Nat) : (bytesAt M a n).length = n := by unfold bytesAt; rw [List.length_map, List.length_range]
theorem bytesAt_at (M : Mem) (a n j : Nat) (p : Int) (h : (bytesAt M a n)[j]? = some p) : j < n ∧ p = M.b (a + j) := by
  unfold bytesAt at h
  rw [List.getElem?_map] at h
  obtain ⟨q, hq, rfl⟩ := Option.map_eq_some_iff.1 h
  obtain ⟨h1, h2⟩ := List.getElem?_eq_some_iff.1 hq
  rw [List.length_range] at h1
  rw [List.getElem_range] at h2
  exact ⟨h1, by rw [h2]⟩
theorem bytesAt_8 (M : Mem) (hM : MemOk M) (a n : Nat) : B8 (bytesAt M a n) := fun x hx => by
  obtain ⟨j, hj⟩ := List.getElem?_of_mem hx
  rw [(bytesAt_at M a n j x hj).2]
  exact hM _
theorem MemB.row {w : World} {g : Nat} {M : Mem} (h : MemB w g M) (a n : Nat) (ha : a + n ≤ 65536) : (Kd.int .u8).C w (some ⟨g, 1 + a, none⟩) (bytesAt M a n).length (bytesAt M a n) := by
  refine ⟨rfl, by rw [bytesAt_len]; omega, fun hn => ⟨_, rfl, fun j p hj => ⟨[.int .u8 p], rfl, rfl, fun k u hk => ?_⟩⟩⟩
  obtain ⟨h1, h2⟩ := bytesAt_at M a n j p hj
  have hk0 : k = 0 := by
    cases k with
    | zero => rfl
    | succ k => simp at hk
  subst hk0
  have hu : Value.int .u8 p = u := by simpa using hk
  subst hu
  rw [Addr.add_lit, show 1 + a + (j * (Kd.int .u8).sz + 0) = 1 + (a + j) by show 1 + a + (j * 1 + 0) = _; omega, h2]
  exact h.byte (a + j) (by omega)
/-- The number of n bytes at a place. -/
def loadS (M : Mem) (a n : Nat) : Int := leS (bytesAt M a n)
theorem none_calls (g : Nat) (M : Mem) (w : World) (hm : MemB w g M) : Calls Try.prog 15 #[.pointer (some ⟨g, 0, none⟩)] w fun e w' => e = .returned (.bool false) ∧ Below w.heap.size w w' := by
  have e0 := hm.made
  go_enter Try.func15, Try.ntmps15
  go_wp2
  go_ret
  exact ⟨rfl, Below.refl _ _⟩
theorem none_nil (w : World) : Calls Try.prog 15 #[.pointer none] w fun e w' => e = .returned (.bool true) ∧ Below w.heap.size w w' := by
  go_enter Try.func15, Try.ntmps15
  go_wp2
  go_ret
  exact ⟨rfl, Below.refl _ _⟩
theorem none_zero (g : Nat) (w : World) (e0 : w.cell? ⟨g, 0, none⟩ = some (.bool false)) : Calls Try.prog 15 #[.pointer (some ⟨g, 0, none⟩)] w fun e w' => e = .returned (.bool true) ∧ Below w.heap.size w w' := by
  go_enter Try.func15, Try.ntmps15
  go_wp2
  go_ret
  exact ⟨rfl, Below.refl _ _⟩
theorem number_calls (n : Nat) (hn : n = 1 ∨ n = 2 ∨ n = 4) (w : World) : Calls Try.prog 16 #[.int .i64 (n : Int)] w fun e w' => e = .returned (.bool true) ∧ Below w.heap.size w w' := by
  refine (memory_number.calls (n : Int) true w ?_).mono fun e w' h => ⟨h.1, h.2.below⟩
  rcases hn with rfl | rfl | rfl <;> rfl
theorem there_calls (a n : Nat) (hn : 0 < n) (ha : a % n = 0) (h : a + n ≤ 65536) (w : World) : Calls Try.prog 17 #[.int .u32 (a : Int), .int .i64 (n : Int)] w fun e w' => e = .returned (.bool true) ∧ Below w.heap.size w w' := by
  refine (memory_there.calls (a : Int) (n : Int) true w ?_).mono fun e w' h => ⟨h.1, h.2.below⟩
  unfold memory_there.f
  have w1 : wrap64 (a : Int) = (a : Int) := by unfold wrap64; omega
  have w2 : wrap64 ((a : Int) + (n : Int)) = (a : Int) + (n : Int) := by unfold wrap64; omega
  rw [if_neg (by omega), w1, w2, if_pos (by rw [Int.tmod_eq_emod_of_nonneg (by omega)]; omega), decide_eq_true (by omega)]
set_option maxRecDepth 100000 in
set_option maxHeartbeats 4000000 in
theorem load_calls (g a n : Nat) (M : Mem) (hM : MemOk M) (hn : n = 1 ∨ n = 2 ∨ n = 4) (ha : a % n = 0) (h : a + n ≤ 65536) (w : World) (hm : MemB w g M) :
    Calls Try.prog 7 #[.pointer (some ⟨g, 0, none⟩), .int .u32 (a : Int), .int .i64 (n : Int)] w fun e w' => e = .returned (.tuple #[.int .u32 (loadS M a n), .int .i64 0]) ∧ Below w.heap.size w w' := by
  have HM := Aside0.mk hm
  have H1 := Aside0.mk (none_calls g M w hm)
  have H2 := Aside0.mk (fun w => number_calls n hn w)
  have H3 := Aside0.mk (fun w => there_calls a n (by omega) ha h w)
  have H4 : Aside0 (∀ W, Below w.heap.size w W → Calls Try.prog 18 #[.slice (some ⟨g, 1 + a, none⟩) n n, .int .i64 0, .int .i64 (n : Int)] W fun e w' => e = .returned (.tuple #[.int .u64 (loadS M a n), .int .i64 0]) ∧ Below W.heap.size W w') := ⟨fun W hW => by
    have hl := bytesAt_len M a n
    have h0 := get_calls ⟨g, 1 + a, none⟩ n (bytesAt M a n) (by omega) (bytesAt_8 M hM a n) 0 n hn (by omega) (by omega) W ((hm.below hW).row a n h)
    have ht : (bytesAt M a n).take n = bytesAt M a n := List.take_of_length_le (by omega)
    rw [List.drop_zero, hl, ht] at h0
    exact h0⟩
  have hlt := le_in _ (bytesAt_8 M hM a n)
  rw [bytesAt_len] at hlt
  have hv : loadS M a n % 4294967296 = loadS M a n := by
    have : (256 : Int) ^ n ≤ 4294967296 := by rcases hn with rfl | rfl | rfl <;> decide
    unfold loadS; omega
  obtain ⟨v, hvv⟩ : ∃ v, loadS M a n = v := ⟨_, rfl⟩
  rw [hvv] at hv H4 ⊢
  have w1 : wrap64 (a : Int) = (a : Int) := by unfold wrap64; omega
  have w2 : wrap64 ((a : Int) + (n : Int)) = (a : Int) + (n : Int) := by unfold wrap64; omega
  have ks : ∀ W : World, (Instr.sliceAt 32 (.pointer (some ⟨g, 1, none⟩)) (some (.int .u32 (a : Int))) (some (.int .i64 ((a : Int) + (n : Int)))) (some (.int .i64 ((a : Int) + (n : Int))))).run Try.prog W = .ok (.slice (some ⟨g, 1 + a, none⟩) n n) W := by
    intro W
    have hel : Try.prog.elem 32 = 5 := by simp [Program.elem, Try.underlying32]
    have har : Try.prog.arrayLen 32 = 65536 := by simp [Program.arrayLen, Try.underlying32]
    have hu : Try.prog.underlying 32 = some (.array (Try.prog.arrayLen 32) (Try.prog.elem 32)) := by rw [hel, har]; exact Try.underlying32
    obtain ⟨i5, hi5, _, hs5, _⟩ := info_parts info5
    rw [run_sliceAt_array_lhm W 32 ⟨g, 1, none⟩ hu .u32 .i64 .i64 a ((a : Int) + n) ((a : Int) + n) (by omega) (by omega) (by omega) (by rw [har]; omega), hel]
    have e1 : ((a : Int) + (n : Int)).toNat = a + n := by omega
    have e2 : ¬ (a + n = a) := by omega
    simp only [sizeOf, typeInfo, hi5, hs5, slicedAt, Result.andThen, e1, Int.toNat_natCast, Nat.mul_one]
    simp [hs5, e2, Addr.add_lit, hi5, Result.andThen]
    try omega
  clear hvv hlt ha h hn hM hm
  go_enter Try.func7, Try.ntmps7
  go_wp2_with (first | (go_at_call 15; (with_reducible refine H1.out.mono ?_); rintro _ w1 ⟨rfl, hb⟩; have HB1 := Aside0.mk hb; clear hb) | (go_at_call 16; (with_reducible refine (H2.out _).mono ?_); rintro _ w2 ⟨rfl, hb⟩; have HB2 := Aside0.mk (HB1.out.trans (hb.mono HB1.out.size)); clear hb) | (go_at_call 17; (with_reducible refine (H3.out _).mono ?_); rintro _ w3 ⟨rfl, hb⟩; have HB3 := Aside0.mk (HB2.out.trans (hb.mono HB2.out.size)); clear hb) | (go_at_call 18; (with_reducible refine (H4.out _ HB3.out).mono ?_); rintro _ w4 ⟨rfl, hb⟩; have HB4 := Aside0.mk (HB3.out.trans (hb.mono HB3.out.size)); clear hb))
  go_ret2
  exact ⟨rfl, HB4.out⟩
def ofS (tag : Bool) (l : List Int) : Cap :=
  let n := leS ((l.drop 4).take 4)
  ⟨tag, leS (l.take 4), n % 128, n / 128 % 8, n / 1024 % 16, n / 16384 % 512, n / 8388608 % 512⟩
end Go.Proofs.Ytadbonmkockakaa.Cp

/- What stays but for some blocks; memory.Store by contract. Written by wip/r5/med.py. -/
namespace Go.Proofs.Ytadbonmkockakaa.Cp
open Go.RowKit Go.Proofs.YtadbonmkockakaaW.PrintWords Go.Proofs.YtadbonmkockakaaW.PrintLast Go.Proofs.YtadbonmkockakaaW.PrintMore Go.Proofs.Ytadbonmkockakaa.QCb Go.Proofs.Ytadbonmkockakaa.QCe
set_option linter.unusedVariables false
set_option linter.unusedSimpArgs false
/-- Nothing is another but blocks of S, and new ones. -/
structure Fix (S : Nat → Prop) (w w' : World) : Prop where
  os : w'.os = w.os
  tape : w'.tape = w.tape
  output : w'.output = w.output
  size : w.heap.size ≤ w'.heap.size
  block : ∀ k, k < w.heap.size → ¬ S k → w'.heap[k]? = w.heap[k]?
theorem Fix.refl (S : Nat → Prop) (w : World) : Fix S w w := ⟨rfl, rfl, rfl, Nat.le_refl _, fun _ _ _ => rfl⟩
theorem Fix.trans {S : Nat → Prop} {a b c : World} (h : Fix S a b) (k : Fix S b c) : Fix S a c :=
  ⟨k.os.trans h.os, k.tape.trans h.tape, k.output.trans h.output, Nat.le_trans h.size k.size, fun i hi hs => (k.block i (Nat.lt_of_lt_of_le hi h.size) hs).trans (h.block i hi hs)⟩
theorem Fix.mono {S T : Nat → Prop} {a b : World} (h : Fix S a b) (hst : ∀ k, S k → T k) : Fix T a b := ⟨h.os, h.tape, h.output, h.size, fun i hi hs => h.block i hi (fun hk => hs (hst i hk))⟩
theorem Fix.of {S : Nat → Prop} {w w' : World} (h : Below w.heap.size w w') : Fix S w w' := ⟨h.os, h.tape, h.output, h.size, fun i hi _ => h.block i hi⟩
theorem Fix.set {S : Nat → Prop} {w w' : World} (h : Fix S w w') {g j : Nat} {v : Value} (hg : S g) : Fix S w (w'.setCell ⟨g, j, none⟩ v) :=
  ⟨h.os, h.tape, h.output, by unfold World.setCell; simpa using h.size, fun i hi hs => (Below.heap_setCell _ _ _ _ (fun e => hs (by rw [e]; exact hg))).trans (h.block i hi hs)⟩
theorem Fix.alloc {S : Nat → Prop} {w w' : World} (h : Fix S w w') (o : Obj) : Fix S w (w'.alloc o) := h.trans (Fix.of (below_alloc (Below.refl _ _) _))
theorem Fix.below {S : Nat → Prop} {B : Nat} {w w' : World} (h : Fix S w w') (hB : B ≤ w.heap.size) (hs : ∀ k, S k → B ≤ k) : Below B w w' :=
  ⟨h.os, h.tape, h.output, h.size, fun k hk => h.block k (by omega) (fun e => by have := hs k e; omega)⟩
theorem Fix.keep {S : Nat → Prop} {w w' : World} {g : Nat} {X : Obj} (h : Fix S w w') (hg : w.heap[g]? = some X) (hs : ¬ S g) : w'.heap[g]? = some X := (h.block g (Array.getElem?_eq_some_iff.1 hg).1 hs).trans hg
theorem MemB.fix {S : Nat → Prop} {w w1 : World} {g : Nat} {M : Mem} (h : MemB w g M) (hf : Fix S w w1) (hs : ¬ S g) : MemB w1 g M := by
  obtain ⟨cells, h1, h2⟩ := h
  exact ⟨cells, hf.keep h1 hs, h2⟩
theorem setCell_at (W : World) (g o : Nat) (v : Value) (cur : Array Value) (e : TypeId) (fr : Nat × Nat) (hg : W.heap[g]? = some (.cells cur e fr)) : (W.setCell ⟨g, o, none⟩ v).heap[g]? = some (.cells (cur.setIfInBounds o v) e fr) := by
  unfold World.setCell
  simp [Array.getElem?_modify, hg]
theorem MemB.set {w : World} {g : Nat} {M M' : Mem} (h : MemB w g M) (i : Nat) (hi : i < 65536) (x : Int) (hb : ∀ j, M'.b j = if j = i then x else M.b j) (ht : ∀ j, M'.t j = M.t j) : MemB (w.setCell ⟨g, 1 + i, none⟩ (.int .u8 x)) g M' := by
  obtain ⟨cells, h1, h2, h3, h4, h5⟩ := h
  refine ⟨_, setCell_at w g (1 + i) _ cells 35 (0, 0) h1, by rw [Array.size_setIfInBounds]; exact h2, ?_, fun j hj => ?_, fun j hj => ?_⟩
  · rw [Array.getElem?_setIfInBounds_ne (by omega)]; exact h3
  · rw [hb]
    by_cases hji : j = i
    · subst hji
      rw [if_pos rfl, Array.getElem?_setIfInBounds_self_of_lt (by omega)]
    · rw [if_neg hji, Array.getElem?_setIfInBounds_ne (by omega)]; exact h4 j hj
  · rw [ht, Array.getElem?_setIfInBounds_ne (by omega)]; exact h5 j hj
theorem MemB.setTag {w : World} {g : Nat} {M M' : Mem} (h : MemB w g M) (i : Nat) (hi : i < 8192) (x : Bool) (hb : ∀ j, M'.b j = M.b j) (ht : ∀ j, M'.t j = if j = i then x else M.t j) : MemB (w.setCell ⟨g, 65537 + i, none⟩ (.bool x)) g M' := by
  obtain ⟨cells, h1, h2, h3, h4, h5⟩ := h
  refine ⟨_, setCell_at w g (65537 + i) _ cells 35 (0, 0) h1, by rw [Array.size_setIfInBounds]; exact h2, ?_, fun j hj => ?_, fun j hj => ?_⟩
  · rw [Array.getElem?_setIfInBounds_ne (by omega)]; exact h3
  · rw [hb, Array.getElem?_setIfInBounds_ne (by omega)]; exact h4 j hj
  · rw [ht]
    by_cases hji : j = i
    · subst hji
      rw [if_pos rfl, Array.getElem?_setIfInBounds_self_of_lt (by omega)]
    · rw [if_neg hji, Array.getElem?_setIfInBounds_ne (by omega)]; exact h5 j hj
/-- The lowest k bytes of a number at a place. -/
def putB (M : Mem) (a k : Nat) (v : Int) : Mem := ⟨fun i => if a ≤ i ∧ i < a + k then v / 256 ^ (i - a) % 256 else M.b i, M.t⟩
def storeS (M : Mem) (a n : Nat) (v : Int) : Mem := ⟨(putB M a n v).b, fun i => if i = a / 8 then false else M.t i⟩
theorem putB_zero (M : Mem) (a : Nat) (v : Int) : putB M a 0 v = M := by
  unfold putB
  congr 1
  funext i
  rw [if_neg (by omega)]
theorem putB_succ (M : Mem) (a k : Nat) (v : Int) (j : Nat) : (putB M a (k + 1) v).b j = if j = a + k then v / 256 ^ k % 256 else (putB M a k v).b j := by
  unfold putB
  simp only []
  by_cases h1 : j = a + k
  · subst h1
    rw [if_pos rfl, if_pos (by omega), show a + k - a = k by omega]
  · rw [if_neg h1]
    by_cases h2 : a ≤ j ∧ j < a + k
    · rw [if_pos h2, if_pos (by omega)]
    · rw [if_neg h2, if_neg (by omega)]
set_option maxRecDepth 100000 in
set_option maxHeartbeats 4000000 in
theorem store_calls (g a n : Nat) (M : Mem) (hn : n = 1 ∨ n = 2 ∨ n = 4) (ha : a % n = 0) (h : a + n ≤ 65536) (v : Int) (hv : 0 ≤ v ∧ v < 4294967296) (w : World) (hm : MemB w g M) :
    Calls Try.prog 12 #[.pointer (some ⟨g, 0, none⟩), .int .u32 (a : Int), .int .i64 (n : Int), .int .u32 v] w fun e w' => e = .returned (.int .i64 0) ∧ Fix (· = g) w w' ∧ MemB w' g (storeS M a n v) := by
  have HM := Aside0.mk hm
  have H1 := Aside0.mk (none_calls g M w hm)
  have H2 := Aside0.mk (fun w => number_calls n hn w)
  have H3 := Aside0.mk (fun w => there_calls a n (by omega) ha h w)
  have HN := Aside0.mk hn
  have HH := Aside0.mk h
  have HV := Aside0.mk hv
  clear hm hn ha h hv
  go_enter Try.func12, Try.ntmps12
  go_wp2_with (first | (go_at_call 15; (with_reducible refine H1.out.mono ?_); rintro _ w1 ⟨rfl, hb⟩; have HB1 := Aside0.mk hb; clear hb) | (go_at_call 16; (with_reducible refine (H2.out _).mono ?_); rintro _ w2 ⟨rfl, hb⟩; have HB2 := Aside0.mk (HB1.out.trans (hb.mono HB1.out.size)); clear hb) | (go_at_call 17; (with_reducible refine (H3.out _).mono ?_); rintro _ w3 ⟨rfl, hb⟩; have HB3 := Aside0.mk (HB2.out.trans (hb.mono HB2.out.size)); clear hb))
  go_loopw [24] (fun v24 wr => ∃ k : Nat, v24 = .int .i64 k ∧ Aside0 (k ≤ n) ∧ Aside0 (Fix (· = g) w wr) ∧ Aside0 (MemB wr g (putB M a k v))) (fun v24 _ => n - (intOf v24).toNat)
  case atStart => exact ⟨0, rfl, ⟨Nat.zero_le _⟩, ⟨Fix.of HB3.out⟩, ⟨by rw [putB_zero]; exact HM.out.below HB3.out⟩⟩
  case round =>
    obtain ⟨wk, rfl⟩ : ∃ q, q = wr := ⟨_, rfl⟩
    obtain ⟨k, rfl, HK, HF, HB⟩ := hrel
    have hh := HH.out
    by_cases hk : k < n
    · have hkI : (k : Int) < (n : Int) := by omega
      have hv0 := HV.out.1
      have hv1 := HV.out.2
      have h4 : k = 0 ∨ k = 1 ∨ k = 2 ∨ k = 3 := by have := HN.out; omega
      rcases h4 with rfl | rfl | rfl | rfl
      · have e0 := HB.out.byte (a) (by omega)
        have ef := HB.out.open_ (1 + (a))
        have HS : Aside0 (MemB (wk.setCell ⟨g, 1 + (a), none⟩ (.int .u8 (v % 256))) g (putB M a 1 v)) := ⟨HB.out.set (a) (by omega) (v % 256) (fun j => by rw [putB_succ M a 0 v j]; simp) (fun j => rfl)⟩
        clear hk
        go_wp2
        go_roundw
        case rel => exact ⟨1, rfl, ⟨by omega⟩, ⟨HF.out.set rfl⟩, HS⟩
        case measure => simp [intOf]; omega
      · have e0 := HB.out.byte (a + 1) (by omega)
        have ef := HB.out.open_ (1 + (a + 1))
        have HS : Aside0 (MemB (wk.setCell ⟨g, 1 + (a + 1), none⟩ (.int .u8 (v / 256 % 256))) g (putB M a 2 v)) := ⟨HB.out.set (a + 1) (by omega) (v / 256 % 256) (fun j => by rw [putB_succ M a 1 v j]; rfl) (fun j => rfl)⟩
        clear hk
        go_wp2
        go_roundw
        case rel => exact ⟨2, rfl, ⟨by omega⟩, ⟨HF.out.set rfl⟩, HS⟩
        case measure => simp [intOf]; omega
      · have e0 := HB.out.byte (a + 2) (by omega)
        have ef := HB.out.open_ (1 + (a + 2))
        have HS : Aside0 (MemB (wk.setCell ⟨g, 1 + (a + 2), none⟩ (.int .u8 (v / 65536 % 256))) g (putB M a 3 v)) := ⟨HB.out.set (a + 2) (by omega) (v / 65536 % 256) (fun j => by rw [putB_succ M a 2 v j]; rfl) (fun j => rfl)⟩
        clear hk
        go_wp2
        go_roundw
        case rel => exact ⟨3, rfl, ⟨by omega⟩, ⟨HF.out.set rfl⟩, HS⟩
        case measure => simp [intOf]; omega
      · have e0 := HB.out.byte (a + 3) (by omega)
        have ef := HB.out.open_ (1 + (a + 3))
        have HS : Aside0 (MemB (wk.setCell ⟨g, 1 + (a + 3), none⟩ (.int .u8 (v / 16777216 % 256))) g (putB M a 4 v)) := ⟨HB.out.set (a + 3) (by omega) (v / 16777216 % 256) (fun j => by rw [putB_succ M a 3 v j]; rfl) (fun j => rfl)⟩
        have h256 : v / 16777216 % 256 = v / 16777216 := by omega
        rw [h256] at HS
        clear h256
        clear hk
        go_wp2
        go_roundw
        case rel => exact ⟨4, rfl, ⟨by omega⟩, ⟨HF.out.set rfl⟩, HS⟩
        case measure => simp [intOf]; omega
    · have hkn : k = n := by have := HK.out; omega
      subst hkn
      have hkI : ¬ ((k : Int) < (k : Int)) := by omega
      obtain ⟨q, hq⟩ : ∃ q, a / 8 = q := ⟨_, rfl⟩
      have hq8 : q < 8192 := by have := HN.out; omega
      have hqI : (q : Int) < 8192 := by omega
      have w2 : (a : Int) / 8 = (q : Int) := by omega
      have w3 : (a : Int) / 8 % 4294967296 = (q : Int) := by omega
      have et := HB.out.tag q hq8
      have ef := HB.out.open_ (65537 + q)
      have HQ := Aside0.mk hq
      clear hh hk hq
      go_wp2
      go_ret
      exact ⟨rfl, HF.out.set rfl, HB.out.setTag q hq8 false (fun j => rfl) (fun j => by show (if j = a / 8 then false else M.t j) = _; rw [HQ.out]; rfl)⟩
end Go.Proofs.Ytadbonmkockakaa.Cp

/- memory.New by contract. Written by wip/r5/meg.py. -/
namespace Go.Proofs.Ytadbonmkockakaa.Cp
open Go.RowKit Go.Proofs.YtadbonmkockakaaW.PrintWords Go.Proofs.YtadbonmkockakaaW.PrintLast Go.Proofs.YtadbonmkockakaaW.PrintMore Go.Proofs.Ytadbonmkockakaa.QCb Go.Proofs.Ytadbonmkockakaa.QCe
set_option linter.unusedVariables false
set_option linter.unusedSimpArgs false
def isZ8 : Value → Bool
  | .int .u8 n => n == 0
  | _ => false
def isFF : Value → Bool
  | .bool b => !b
  | _ => false
theorem isZ8_eq {v : Value} (h : isZ8 v = true) : v = .int .u8 0 := by
  unfold isZ8 at h
  split at h
  · rw [beq_iff_eq] at h; rw [h]
  · cases h
theorem isFF_eq {v : Value} (h : isFF v = true) : v = .bool false := by
  unfold isFF at h
  split at h
  · simp at h; rw [h]
  · cases h
theorem memZ_size : Try.zeroCells35.toList.length = 73729 := by kernel_rfl
theorem memZ_8 : ((Try.zeroCells35.toList.drop 1).take 65536).all isZ8 = true := by kernel_rfl
theorem memZ_f : (Try.zeroCells35.toList.drop 65537).all isFF = true := by kernel_rfl
def zeroM : Mem := ⟨fun _ => 0, fun _ => false⟩
theorem zeroM_ok : MemOk zeroM := fun _ => by show (0 : Int) ≤ 0 ∧ (0 : Int) < 256; decide
theorem newC : MemC (Try.zeroCells35.setIfInBounds 0 (.bool true)) zeroM := by
  have hs : Try.zeroCells35.size = 73729 := by have := memZ_size; rwa [Array.length_toList] at this
  refine ⟨by rw [Array.size_setIfInBounds]; exact hs, Array.getElem?_setIfInBounds_self_of_lt (by omega), fun i hi => ?_, fun i hi => ?_⟩
  · rw [Array.getElem?_setIfInBounds_ne (by omega), Array.getElem?_eq_getElem (by omega)]
    have h := List.all_eq_true.1 memZ_8 (Try.zeroCells35[1 + i]'(by omega)) (by
      rw [List.mem_iff_getElem?]
      refine ⟨i, ?_⟩
      rw [List.getElem?_take_of_lt hi, List.getElem?_drop, Array.getElem?_toList, Array.getElem?_eq_getElem (by omega)])
    rw [isZ8_eq h]; rfl
  · rw [Array.getElem?_setIfInBounds_ne (by omega), Array.getElem?_eq_getElem (by omega)]
    have h := List.all_eq_true.1 memZ_f (Try.zeroCells35[65537 + i]'(by omega)) (by
      rw [List.mem_iff_getElem?]
      refine ⟨i, ?_⟩
      rw [List.getElem?_drop, Array.getElem?_toList, Array.getElem?_eq_getElem (by omega)])
    rw [isFF_eq h]; rfl
theorem MemB.mk_ {w : World} {g : Nat} {M : Mem} {cells : Array Value} (h1 : w.heap[g]? = some (.cells cells 35 (0, 0))) (h2 : MemC cells M) : MemB w g M := ⟨cells, h1, h2⟩
set_option maxRecDepth 100000 in
set_option maxHeartbeats 4000000 in
theorem new_calls (w : World) : Calls Try.prog 11 #[] w fun e w' => ∃ g, e = .returned (.pointer (some ⟨g, 0, none⟩)) ∧ w.heap.size ≤ g ∧ MemB w' g zeroM ∧ Below w.heap.size w w' := by
  have HB : Aside0 (MemB (w.alloc (.cells (Try.zeroCells35.setIfInBounds 0 (.bool true)) 35)) w.heap.size zeroM) := ⟨MemB.mk_ (heap_alloc_new w _) newC⟩
  go_enter Try.func11, Try.ntmps11
  go_wp2
  go_ret
  exact Exists.intro w.heap.size (And.intro rfl (And.intro (Nat.le_refl _) (And.intro HB.out (below_alloc (Below.refl _ _) _))))
end Go.Proofs.Ytadbonmkockakaa.Cp
