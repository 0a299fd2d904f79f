/- slices.Clone of bytes by contract: a row of the call's own. And what an archive's parts are, in plain words. -/
import Derived.Test.YtdjmahmbofhnpaaDoorQArB
import Derived.Test.YtdjmahmbofhnpaaDoorQArMO
import Derived.Lib.SliceRun
namespace Go.Proofs.YtdjmahmbofhnpaaDoor.Ar
open Go.RowKit Go.Proofs.YtdjmahmbofhnpaaDoorW.PrintWords Go.Proofs.YtdjmahmbofhnpaaDoorW.PrintLast Go.Proofs.YtdjmahmbofhnpaaDoor.QAr
set_option linter.unusedVariables false
set_option linter.unusedSimpArgs false
set_option maxRecDepth 100000 in
set_option maxHeartbeats 4000000 in
theorem clone_calls (A : Option Addr) (c : Nat) (xs : List Int) (hc : xs.length ≤ c) (hl : xs.length ≤ 140737488355328) (w : World) (hr : (Kd.int .u8).C w A xs.length xs) :
    Calls Tryd.prog 41 #[.slice A xs.length c] w fun e w' => ∃ v, e = .returned v ∧ (Kd.int .u8).R 5 w' w.heap.size (fun _ => True) v xs ∧ Below w.heap.size w w' := by
  have HR := Aside0.mk hr
  cases A with
  | none =>
    have hx : xs = [] := by
      cases xs with
      | nil => rfl
      | cons y r => obtain ⟨ad, h, _⟩ := hr.2.2 (Nat.succ_pos _); cases h
    subst hx
    clear hr
    have kn := fun (w : World) (a : Option Addr) (n c : Nat) => Lib.run_eql_slice_nil (P := Tryd.prog) w 24 5 a n c 0 0 Tryd.underlying24
    go_enter Tryd.func41, Tryd.ntmps41
    go_wp2_with fail
    go_ret
    exact ⟨_, rfl, Kd.R_nil _ _ _ _ _, Below.refl _ _⟩
  | some ad =>
    clear hr
    have HB := Aside0.mk (Below.refl w.heap.size w)
    have kn := fun (w : World) (a : Option Addr) (n c : Nat) => Lib.run_eql_slice_nil (P := Tryd.prog) w 24 5 a n c 0 0 Tryd.underlying24
    go_enter Tryd.func41, Tryd.ntmps41
    go_wp2_with (first | ((with_reducible refine gate_dst (N := 5) rfl ?_); refine Kd.R_lit (Kd.int .u8) (w0 := w) w.heap.size 5 ?hg (N := 5) ?hd (xs := ([] : List Int)) (inner := []) (ok := fun _ => True) (okp := fun _ => True) ?hr ?hp (fun _ hk => hk) trivial HB.out (Nat.le_refl _) (by decide) ?_; (case hd => rfl); (case hg => rfl); (case hr => first | (go_simp; done) | (go_simp; rfl)); (case hp => exact Reps.none _ _); intro v5 w2 ho hb hg hn; have HB2 := Aside0.mk hb; have HO2 := Aside0.mk ho; clear ho hb hg hn) | ((with_reducible refine gate_builtin (b := .append) (xs := #[.tmp 5, .tmp 6]) rfl ?_); at_builtin; refine Kd.R_append_rows (Kd.int .u8) (w0 := w) w.heap.size rfl (.tmp 5) (.tmp 6) 24 5 (.int .u8 0) 1 rfl Tryd.underlying24 info5 rfl (by decide) (by omega) v5 ([] : List Int) xs _ _ _ (fun _ => True) (fun _ => False) rfl rfl HO2.out (Kd.C_below HR.out HB2.out) (fun _ _ h => h) (fun _ h => h.elim) (fun _ _ => trivial) HB2.out HB2.out.size (by show (0 + xs.length) * 1 ≤ _; omega) ?_; intro v6 w3 ho hb hg hat; have HB3 := Aside0.mk hb; have HO3 := Aside0.mk ho; clear ho hb hg hat))
    go_ret
    exact ⟨_, rfl, HO3.out, HB3.out⟩
/-- A head's size. -/
def trimS (s : ByteArray) : ByteArray := ⟨(Lib.trimRightB s.data.toList 32).toArray⟩
def sizeS (t : ByteArray) : Option Nat :=
  match Lib.atoiAll (trimS t).data.toList with
  | .ok v => if v < 0 then none else if t = padS (decS v.toNat) 10 then some v.toNat else none
  | _ => none
def headAt (b : List Int) (a : Nat) : ByteArray := strOfNums ((b.drop a).take 60)
/-- The part at an even place. -/
def stepS (b : List Int) (a : Nat) : Except Int (S64 × Nat) :=
  if b.length < a + 60 then .error 4 else
    match sizeS ((headAt b a).extract 48 58) with
    | none => .error 5
    | some n => if (headAt b a).extract 58 60 = (⟨#[96, 10]⟩ : ByteArray) then (if b.length < a + 60 + n then .error 4 else .ok (⟨trimS ((headAt b a).extract 0 16), (a : Int), (b.drop (a + 60)).take n⟩, a + 60 + n)) else .error 5
def partsL : Nat → List Int → Nat → List S64 → List S64 × Int
  | 0, _, _, acc => (acc, 0)
  | f + 1, b, a, acc =>
    if b.length ≤ a then (acc, 0) else
      if a % 2 = 1 ∧ (b.getD a 0 ≠ 10 ∨ a + 1 = b.length) then ([], 5) else
        match stepS b (even a) with
        | .error e => ([], e)
        | .ok (p, a') => partsL f b a' (acc ++ [p])
def partsS (b : List Int) : List S64 × Int :=
  if b.length < 8 then ([], 4) else if strOfNums (b.take 8) = (⟨#[33, 60, 97, 114, 99, 104, 62, 10]⟩ : ByteArray) then partsL b.length b 8 [] else ([], 5)
theorem stepS_gt {b : List Int} {a a' : Nat} {p : S64} (h : stepS b a = .ok (p, a')) : a + 60 ≤ a' ∧ a' ≤ b.length ∧ p.f2.length + (a + 60) = a' ∧ p.f1 = (a : Int) := by
  unfold stepS at h
  split at h
  · cases h
  · split at h
    · cases h
    · split at h
      · split at h
        · cases h
        · cases h
          refine ⟨by omega, by omega, ?_, rfl⟩
          simp only [List.length_take, List.length_drop]
          omega
      · cases h
theorem partsL_fuel (b : List Int) : ∀ (f g a : Nat) (acc : List S64), b.length - a ≤ f → b.length - a ≤ g → partsL f b a acc = partsL g b a acc := by
  intro f
  induction f with
  | zero =>
    intro g a acc h1 h2
    cases g with
    | zero => rfl
    | succ g => simp only [partsL]; rw [if_pos (by omega)]
  | succ f ih =>
    intro g a acc h1 h2
    cases g with
    | zero => simp only [partsL]; rw [if_pos (by omega)]
    | succ g =>
      simp only [partsL]
      split
      · rfl
      · split
        · rfl
        · cases hs : stepS b (even a) with
          | error e => rfl
          | ok q =>
            obtain ⟨p, a'⟩ := q
            have := stepS_gt hs
            have he : a ≤ even a := by unfold even; omega
            exact ih g a' _ (by omega) (by omega)
end Go.Proofs.YtdjmahmbofhnpaaDoor.Ar
