/- plain by contract: plainS. -/
import Derived.Test.YtchkjfokoenlnaaQSyBB
import Derived.Test.YtchkjfokoenlnaaQSyG1
import Derived.Test.YtchkjfokoenlnaaQSyO
import Derived.Deep.QuietTactic
import Derived.BigQuiet
import Derived.Outline
import Derived.Deep.Light
import Derived.Laws.EntriesVeiled
import Derived.WideMake
namespace Go.Proofs.Ytchkjfokoenlnaa.Sym
open Go.RowKit Go.Maps Go.WideMaps Go.Proofs.YtchkjfokoenlnaaW.PrintWords Go.Proofs.YtchkjfokoenlnaaW.PrintLast Go.Proofs.Ytchkjfokoenlnaa.QSy
set_option linter.unusedVariables false
set_option linter.unusedSimpArgs false
structure KeepP (w wr : World) (o : Option (List ByteArray)) (ns : List ByteArray) (n : Nat) : Prop where
  is : o = some ns
  map : MapB wr w.heap.size ns
  len : ns.length ≤ n
  below : Below w.heap.size w wr
theorem KeepP.alloc {w wr : World} {o : Option (List ByteArray)} {ns : List ByteArray} {n : Nat} (h : KeepP w wr o ns n) (ob : Obj) : KeepP w (wr.alloc ob) o ns n :=
  ⟨h.is, h.map.below (below_alloc (Below.refl _ _) ob), h.len, below_alloc h.below ob⟩
theorem cell_alloc0 {w : World} {a : Addr} {v : Value} (h : w.cell? a = some v) (ob : Obj) : (w.alloc ob).cell? a = some v := pw_cell_below (below_alloc (Below.refl _ _) ob) h
theorem turned_below {w wr w3 : World} (h : Below w.heap.size w wr) (ht : wr.mapTurned w3 w.heap.size) : Below w.heap.size w w3 := by
  exact pw_below_grown h _ h.size ht.grown (fun q hq => by cases hq; exact Nat.le_refl _)
theorem cnt_take_succ (ls : List S44) (a : Nat) (ha : a < ls.length) : cnt (ls.take (a + 1)) = cnt (ls.take a) + ((ls.getD a z44).f1.f1).length := by
  have hg : ls.getD a z44 = ls[a] := by rw [List.getD_eq_getElem?_getD, List.getElem?_eq_getElem ha]; rfl
  rw [hg]
  unfold cnt
  rw [List.take_succ_eq_append_getElem ha, List.map_append, List.sum_append]
  simp
attribute [local go_sem] run_makeMap_plain
set_option maxRecDepth 100000 in
set_option maxHeartbeats 16000000 in
theorem plain_calls (A : Option Addr) (c : Nat) (ls : List S44) (hc : ls.length ≤ c) (hn : cnt ls ≤ 400) (hno : NamesOk ls) (w : World) (hr : Kd.C k44 w A ls.length ls) :
    Calls Try.prog 14 #[.slice A ls.length c] w fun e w' => e = .returned (.bool (plainS ls)) ∧ Below w.heap.size w w' := by
  have HR := Aside0.mk hr
  have HN := Aside0.mk hn
  have HNO := Aside0.mk hno
  obtain ⟨pl, hpl⟩ : ∃ b, plainS ls = b := ⟨_, rfl⟩
  rw [hpl]
  have HPL := Aside0.mk hpl
  clear hr hn hno hpl
  go_enter Try.func14, Try.ntmps14
  go_wp2
  go_loopw [4] (fun v4 wr => ∃ i : Nat, v4 = .int .i64 i ∧ Aside0 (i ≤ ls.length) ∧ ∃ ns, Aside0 (KeepP w wr (pObj ls i) ns (cnt (ls.take i)))) (fun v4 _ => ls.length - (intOf v4).toNat)
  case atStart => exact ⟨0, rfl, ⟨Nat.zero_le _⟩, [], ⟨⟨rfl, MapB.made _, Nat.zero_le _, (Below.refl _ _).alloc (Nat.le_refl _) _⟩⟩⟩
  case round =>
    obtain ⟨wo, rfl⟩ : ∃ q, q = wr := ⟨_, rfl⟩
    obtain ⟨i, rfl, HI, ns0, HK0⟩ := hrel
    have hlen : ls.length ≤ 9223372036854775807 := HR.out.2.1
    by_cases hi : i < ls.length
    · have hiI : (i : Int) < (ls.length : Int) := by omega
      have HWI : Aside0 (wrap64 ((i : Int) + 1) = ((i + 1 : Nat) : Int)) := ⟨by unfold wrap64; omega⟩
      obtain ⟨x, hx⟩ : ∃ x, rd_T44 ls (i : Int) = x := ⟨_, rfl⟩
      have hxg : ls.getD i z44 = x := by rw [← hx]; unfold rd_T44; rw [Int.toNat_natCast]
      have HX := Aside0.mk hx
      have HXG := Aside0.mk hxg
      clear hx hxg
      go_wp2_with fail
      go_loopw [5] (fun v5 wx => ∃ k : Nat, v5 = .int .i64 k ∧ Aside0 (k ≤ x.f1.f1.length) ∧ ∃ ns, Aside0 (KeepP w wx (pSym (pObj ls i) x.f1.f1 k) ns (cnt (ls.take i) + k))) (fun v5 _ => x.f1.f1.length - (intOf v5).toNat)
      case atStart => exact ⟨0, rfl, ⟨Nat.zero_le _⟩, ns0, HK0⟩
      case round =>
        obtain ⟨wz, rfl⟩ : ∃ q, q = wr := ⟨_, rfl⟩
        obtain ⟨k, rfl, HKK, ns, HK⟩ := hrel
        obtain ⟨ad4, A4, c4, A5, c5, A6, c6, rfl, _, _, k2, _, _, _, l5, C5, _, _⟩ := at_T44 (Kd.C_below HR.out HK.out.below) (i : Int) (by omega) hiI
        rw [HX.out] at k2 l5 C5
        rw [Int.toNat_natCast] at k2
        have k2' : wz.cell? ⟨(ad4.add (i * 4)).block, (ad4.add (i * 4)).off + 1 + 1, none⟩ = some (.slice A5 x.f1.f1.length c5) := k2
        clear k2
        by_cases hk : k < x.f1.f1.length
        · have hkI : (k : Int) < (x.f1.f1.length : Int) := by omega
          have hl5 : x.f1.f1.length ≤ 9223372036854775807 := C5.2.1
          have HWK : Aside0 (wrap64 ((k : Int) + 1) = ((k + 1 : Nat) : Int)) := ⟨by unfold wrap64; omega⟩
          obtain ⟨ad5, rfl, s0, s1, s2, s3, s4, s5, s6⟩ := at_T47 C5 (k : Int) (by omega) hkI
          obtain ⟨z, hz⟩ : ∃ z, rd_T47 x.f1.f1 (k : Int) = z := ⟨_, rfl⟩
          rw [hz] at s0 s1 s2 s3 s4 s5 s6
          rw [Int.toNat_natCast] at s0 s1 s2 s3 s4 s5 s6
          have hzg : x.f1.f1.getD k z47 = z := by rw [← hz]; unfold rd_T47; rw [Int.toNat_natCast]
          have hns : z.f0.size ≤ maxLen := by
            have := HNO.out i k
            rw [HXG.out, hzg] at this
            exact this
          have hstep : pSym (pObj ls i) x.f1.f1 (k + 1) = pst (some ns) z := by
            show pst (pSym (pObj ls i) x.f1.f1 k) (x.f1.f1.getD k z47) = _
            rw [HK.out.is, hzg]
          have HST := Aside0.mk hstep
          have hlim : ns.length < maxLen := by
            have h1 := HK.out.len
            have h2 := cnt_take_succ ls i hi
            rw [HXG.out] at h2
            have h3 := cnt_take ls (i + 1)
            have h4 := HN.out
            unfold maxLen; omega
          obtain ⟨zn, zv, zs, zb, zk, zh, zi⟩ := z
          clear hz hzg hstep C5
          go_upto_region 9 with fail
          generalize hWa : wz.alloc (.cells #[.string zn, .int .u32 zv, .int .u32 zs, .int .u8 zb, .int .u8 zk, .bool zh, .int .i64 zi] 47 (0, 0)) = wa
          have d0 : wa.cell? ⟨wz.heap.size, 0, none⟩ = some (.string zn) := by rw [← hWa]; simp [go_sem]
          have d3 : wa.cell? ⟨wz.heap.size, 3, none⟩ = some (.int .u8 zb) := by rw [← hWa]; simp [go_sem]
          have d6 : wa.cell? ⟨wz.heap.size, 6, none⟩ = some (.int .i64 zi) := by rw [← hWa]; simp [go_sem]
          have HKA : Aside0 (KeepP w wa (pSym (pObj ls i) x.f1.f1 k) ns (cnt (ls.take i) + k)) := ⟨by rw [← hWa]; exact HK.out.alloc _⟩
          clear hWa s0 s1 s2 s3 s4 s5 s6 k2'
          have hl := HKA.out.map.look hns
          have hl' : (Instr.lookup 71 (.map (some w.heap.size)) (.string zn) false).run Try.prog wa = .ok (.bool (seenB ns zn)) wa := hl
          obtain ⟨w3, hst, hm3, ht3⟩ := HKA.out.map.store zn hns hlim
          have HB3 : Aside0 (Below w.heap.size w w3) := ⟨turned_below HKA.out.below ht3⟩
          have HM3 := Aside0.mk hm3
          clear hm3 ht3 hl
          obtain ⟨sk, hsk⟩ : ∃ b, skipB ⟨zn, zv, zs, zb, zk, zh, zi⟩ = b := ⟨_, rfl⟩
          have HSK := Aside0.mk hsk
          obtain ⟨se, hse⟩ : ∃ b, seenB ns zn = b := ⟨_, rfl⟩
          rw [hse] at hl'
          have HSE := Aside0.mk hse
          clear hsk hse
          by_cases hb0 : zb = 0
          · have hs : skipB ⟨zn, zv, zs, zb, zk, zh, zi⟩ = true := by unfold skipB; simp [*]
            have HS := Aside0.mk hs
            clear hs
            go_wp2_with fail
            refine ⟨⟨k + 1, by first | rfl | (simp; done) | (rw [HWK.out]; done), ⟨hk⟩, ns, ⟨⟨by rw [HST.out]; unfold pst; simp only [HS.out, if_true], HKA.out.map, by have := HKA.out.len; omega, HKA.out.below⟩⟩⟩, by simp only [intOf]; omega⟩
          · by_cases h6 : zi = -1
            · have hs : skipB ⟨zn, zv, zs, zb, zk, zh, zi⟩ = true := by unfold skipB; simp [*]
              have HS := Aside0.mk hs
              clear hs
              have e0 : (zb == 0) = false := by simpa using hb0
              go_wp2_with fail
              refine ⟨⟨k + 1, by first | rfl | (simp; done) | (rw [HWK.out]; done), ⟨hk⟩, ns, ⟨⟨by rw [HST.out]; unfold pst; simp only [HS.out, if_true], HKA.out.map, by have := HKA.out.len; omega, HKA.out.below⟩⟩⟩, by simp only [intOf]; omega⟩
            · by_cases hb1 : zb = 1
              · by_cases h3 : zi = -3
                · have hs : skipB ⟨zn, zv, zs, zb, zk, zh, zi⟩ = false := by unfold skipB; simp [*]
                  have HS := Aside0.mk hs
                  clear hs
                  have e0 : (zb == 0) = false := by simpa using hb0
                  have e6 : (zi == -1) = false := by simpa using h6
                  have e1 : (zb == 1) = true := by simpa using hb1
                  have e3 : (zi != -3) = false := by simpa using h3
                  cases se with
                  | true =>
                    have hpf : pl = false := HPL.out.symm.trans (plain_stop hi (by rw [HXG.out]; exact hk) (by rw [HXG.out, HST.out]; unfold pst; simp [HS.out, HSE.out]))
                    subst hpf
                    go_wp2_with fail
                    go_ret
                    exact ⟨rfl, HKA.out.below⟩
                  | false =>
                    go_wp2_with fail
                    refine ⟨⟨k + 1, by first | rfl | (simp; done) | (rw [HWK.out]; done), ⟨hk⟩, ns ++ [zn], ⟨⟨by rw [HST.out]; unfold pst; simp [HS.out, HSE.out], HM3.out HSE.out, by have := HKA.out.len; rw [List.length_append, List.length_singleton]; omega, HB3.out⟩⟩⟩, by simp only [intOf]; omega⟩
                · have hs : skipB ⟨zn, zv, zs, zb, zk, zh, zi⟩ = true := by unfold skipB; simp [*]
                  have HS := Aside0.mk hs
                  clear hs
                  have e0 : (zb == 0) = false := by simpa using hb0
                  have e6 : (zi == -1) = false := by simpa using h6
                  have e1 : (zb == 1) = true := by simpa using hb1
                  have e3 : (zi != -3) = true := by simpa using h3
                  go_wp2_with fail
                  refine ⟨⟨k + 1, by first | rfl | (simp; done) | (rw [HWK.out]; done), ⟨hk⟩, ns, ⟨⟨by rw [HST.out]; unfold pst; simp only [HS.out, if_true], HKA.out.map, by have := HKA.out.len; omega, HKA.out.below⟩⟩⟩, by simp only [intOf]; omega⟩
              · have hs : skipB ⟨zn, zv, zs, zb, zk, zh, zi⟩ = false := by unfold skipB; simp [*]
                have HS := Aside0.mk hs
                clear hs
                have e0 : (zb == 0) = false := by simpa using hb0
                have e6 : (zi == -1) = false := by simpa using h6
                have e1 : (zb == 1) = false := by simpa using hb1
                cases se with
                | true =>
                  have hpf : pl = false := HPL.out.symm.trans (plain_stop hi (by rw [HXG.out]; exact hk) (by rw [HXG.out, HST.out]; unfold pst; simp [HS.out, HSE.out]))
                  subst hpf
                  go_wp2_with fail
                  go_ret
                  exact ⟨rfl, HKA.out.below⟩
                | false =>
                  go_wp2_with fail
                  refine ⟨⟨k + 1, by first | rfl | (simp; done) | (rw [HWK.out]; done), ⟨hk⟩, ns ++ [zn], ⟨⟨by rw [HST.out]; unfold pst; simp [HS.out, HSE.out], HM3.out HSE.out, by have := HKA.out.len; rw [List.length_append, List.length_singleton]; omega, HB3.out⟩⟩⟩, by simp only [intOf]; omega⟩
        · have hkn : k = x.f1.f1.length := by have := HKK.out; omega
          have hkI : ¬ ((k : Int) < (x.f1.f1.length : Int)) := by omega
          go_wp2_with fail
          refine ⟨⟨i + 1, by first | rfl | (simp; done) | (rw [HWI.out]; done), ⟨hi⟩, ns, ⟨⟨?_, HK.out.map, ?_, HK.out.below⟩⟩⟩, by simp only [intOf]; omega⟩
          · show pSym (pObj ls i) ((ls.getD i z44).f1.f1) ((ls.getD i z44).f1.f1).length = some ns
            rw [HXG.out, ← hkn]; exact HK.out.is
          · have h2 := cnt_take_succ ls i hi
            rw [HXG.out] at h2
            have := HK.out.len
            omega
    · have hin : i = ls.length := by have := HI.out; omega
      have hiI : ¬ ((i : Int) < (ls.length : Int)) := by omega
      have hpt : pl = true := by
        rw [← HPL.out]
        unfold plainS
        rw [← hin, HK0.out.is]; rfl
      subst hpt
      go_wp2_with fail
      go_ret
      exact ⟨rfl, HK0.out.below⟩
end Go.Proofs.Ytchkjfokoenlnaa.Sym
