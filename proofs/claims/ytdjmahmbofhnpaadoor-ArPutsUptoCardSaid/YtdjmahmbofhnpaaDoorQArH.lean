/- ref.head, four, magic, zero, name by contract. -/
import Derived.Test.YtdjmahmbofhnpaaDoorQArT
import Derived.Test.YtdjmahmbofhnpaaDoorQArx8
namespace Go.Proofs.YtdjmahmbofhnpaaDoor.Ar
open Go.RowKit Go.Maps Go.WideMaps Go.Proofs.YtdjmahmbofhnpaaDoorW.PrintWords Go.Proofs.YtdjmahmbofhnpaaDoorW.PrintLast Go.Proofs.YtdjmahmbofhnpaaDoor.QAr
set_option linter.unusedVariables false
set_option linter.unusedSimpArgs false
theorem liftO {α : Type} {f : Nat → Option α} (h : ∀ k, LeO (f k) (f (k + 1))) {k : Nat} {r : α} (d : Nat) (hk : f k = some r) : f (d + k) = some r := by
  induction d with
  | zero => rw [Nat.zero_add]; exact hk
  | succ d ih => rw [show d + 1 + k = (d + k) + 1 from by omega]; exact h _ _ ih
theorem head_f (s : ByteArray) (n : Nat) (hs : s.size ≤ 1000000000000000) (hn : n ≤ 8000000000000000000) : ∃ K, bulwarkref10_head.f K s (n : Int) = some (headS s n) := by
  obtain ⟨K1, h1⟩ := blanks_f 16 (by omega) _ s rfl
  obtain ⟨K2, h2⟩ := blanks_f 12 (by omega) _ z1 rfl
  obtain ⟨K3, h3⟩ := blanks_f 6 (by omega) _ z1 rfl
  obtain ⟨K4, h4⟩ := blanks_f 8 (by omega) _ z1 rfl
  obtain ⟨K5, h5⟩ := tens_f n n (Nat.le_refl _) (⟨#[]⟩ : ByteArray) (by show 0 + n ≤ _; omega)
  obtain ⟨K6, h6⟩ := blanks_f 10 (by omega) _ (decS n) rfl
  have e5 : decS n ++ (⟨#[]⟩ : ByteArray) = decS n := by apply ByteArray.ext; rw [ByteArray.data_append]; simp
  rw [e5] at h5
  have mb : ∀ s a k, LeO (bulwarkref10_blanks.f k s a) (bulwarkref10_blanks.f (k + 1) s a) := fun s a k => bulwarkref10_blanks.mono _ _ _
  have mt : ∀ a k, LeO (bulwarkref10_tens.f k a) (bulwarkref10_tens.f (k + 1) a) := fun a k => bulwarkref10_tens.mono _ _
  obtain ⟨K, hK⟩ : ∃ K, K = K1 + K2 + K3 + K4 + K5 + K6 := ⟨_, rfl⟩
  have g1 : bulwarkref10_blanks.f K s 16 = some (padS s 16) := by have := liftO (mb s 16) (K - K1) h1; rwa [show K - K1 + K1 = K from by omega] at this
  have g2 : bulwarkref10_blanks.f K (⟨#[48]⟩ : ByteArray) 12 = some (padS z1 12) := by have := liftO (mb z1 12) (K - K2) h2; rwa [show K - K2 + K2 = K from by omega] at this
  have g3 : bulwarkref10_blanks.f K (⟨#[48]⟩ : ByteArray) 6 = some (padS z1 6) := by have := liftO (mb z1 6) (K - K3) h3; rwa [show K - K3 + K3 = K from by omega] at this
  have g4 : bulwarkref10_blanks.f K (⟨#[48]⟩ : ByteArray) 8 = some (padS z1 8) := by have := liftO (mb z1 8) (K - K4) h4; rwa [show K - K4 + K4 = K from by omega] at this
  have g5 : bulwarkref10_tens.f K (n : Int) = some (decS n) := by have := liftO (mt (n : Int)) (K - K5) (show bulwarkref10_tens.f K5 (n : Int) = some (decS n) from h5); rwa [show K - K5 + K5 = K from by omega] at this
  have g6 : bulwarkref10_blanks.f K (decS n) 10 = some (padS (decS n) 10) := by have := liftO (mb (decS n) 10) (K - K6) h6; rwa [show K - K6 + K6 = K from by omega] at this
  have hd := decS_size n (by omega)
  have z : z1.size = 1 := rfl
  have t : (strOfNums ([96, 10] : List Int)) = (⟨#[96, 10]⟩ : ByteArray) := rfl
  have t2 : (⟨#[96, 10]⟩ : ByteArray).size = 2 := rfl
  refine ⟨K, ?_⟩
  unfold bulwarkref10_head.f headS
  rw [g1, Option.bind_some, g2, Option.bind_some, if_pos (by simp only [ByteArray.size_append, padS_size, z]; omega), g3, Option.bind_some, if_pos (by simp only [ByteArray.size_append, padS_size, z]; omega), Option.bind_some, if_pos (by simp only [ByteArray.size_append, padS_size, z]; omega), g4, Option.bind_some, if_pos (by simp only [ByteArray.size_append, padS_size, z]; omega), g5, Option.bind_some, g6, Option.bind_some, if_pos (by simp only [ByteArray.size_append, padS_size, z]; omega), Option.bind_some, t, if_pos (by simp only [ByteArray.size_append, padS_size, z, t2]; omega)]
theorem rhead_calls (s : ByteArray) (n : Nat) (hs : s.size ≤ 1000000000000000) (hn : n ≤ 8000000000000000000) (w : World) : Calls Tryd.prog 28 #[.string s, .int .i64 (n : Int)] w fun e w' => e = .returned (.string (headS s n)) ∧ Below w.heap.size w w' := by
  obtain ⟨K, hK⟩ := head_f s n hs hn
  exact bulwarkref10_head.calls K s _ _ w hK
theorem rfour_f (n : Nat) (hn : n ≤ 4294967295) : bulwarkref10_four.f (n : Int) = some (bigB n) := by
  unfold bulwarkref10_four.f bigB
  have e1 : ∀ m : Nat, 0 < m → Int.tdiv (n : Int) (m : Int) = ((n / m : Nat) : Int) := fun m _ => by rw [Int.tdiv_eq_ediv_of_nonneg (by omega)]; omega
  have e2 : ∀ q : Nat, Int.tmod (q : Int) 256 = ((q % 256 : Nat) : Int) := fun q => by rw [Int.tmod_eq_emod_of_nonneg (by omega)]; omega
  have w1 : ∀ q : Nat, q ≤ 4294967295 → wrap64 (q : Int) = (q : Int) := fun q h => by unfold wrap64; omega
  rw [show (16777216 : Int) = ((16777216 : Nat) : Int) from rfl, show (65536 : Int) = ((65536 : Nat) : Int) from rfl, show Int.tdiv (n : Int) 256 = ((n / 256 : Nat) : Int) from e1 256 (by decide), e1 _ (by decide), e1 _ (by decide), w1 _ (by omega), w1 _ (by omega), w1 _ (by omega), e2, e2, e2]
  congr 1
  simp only [List.cons.injEq, and_true]
  omega
theorem rfour_calls (n : Nat) (hn : n ≤ 4294967295) (w : World) : Calls Tryd.prog 27 #[.int .i64 (n : Int)] w fun e w' => ∃ v0_ : Value, e = .returned (v0_) ∧ Kd.R (Kd.int .u8) 5 w' w.heap.size (fun _ => True) v0_ (bigB n) ∧ Below w.heap.size w w' :=
  bulwarkref10_four.calls _ _ w (rfour_f n hn)
def magS : ByteArray := ⟨#[33, 60, 97, 114, 99, 104, 62, 10]⟩
theorem tb_magS : tb magS = magicB := by decide
theorem rmagic_calls (w : World) : Calls Tryd.prog 26 #[] w fun e w' => e = .returned (.string magS) ∧ Below w.heap.size w w' :=
  bulwarkref10_magic.calls magS w (by kernel_rfl)
theorem rzero_calls (s : ByteArray) (hs : s.size ≤ 9223372036854775807) (w : World) : Calls Tryd.prog 25 #[.string s] w fun e w' => e = .returned (.bool (zeroIn s)) ∧ Below w.heap.size w w' := by
  obtain ⟨K, hK⟩ := zero_f s hs
  exact (bulwarkref10_zero.calls K s _ w hK).mono fun e w' h => ⟨h.1, h.2.below⟩
theorem rname_calls (s : ByteArray) (hs : s.size ≤ 9223372036854775807) (w : World) : Calls Tryd.prog 24 #[.string s] w fun e w' => e = .returned (.bool (nameOk s)) ∧ Below w.heap.size w w' := by
  obtain ⟨K, hK⟩ := refName_f s hs
  exact (bulwarkref10_name.calls K s _ w hK).mono fun e w' h => ⟨h.1, h.2.below⟩
end Go.Proofs.YtdjmahmbofhnpaaDoor.Ar
