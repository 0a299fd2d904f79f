/- The words of instructions in arithmetic: what lies where in a word, and what comes back of it. No condition. -/
import Derived.Test.YtadbonmkockakaaQInsB
namespace Go.Proofs.Ytadbonmkockakaa.Ins
open Go.RowKit Go.Proofs.YtadbonmkockakaaW.PrintWords Go.Proofs.YtadbonmkockakaaW.PrintLast Go.Proofs.Ytadbonmkockakaa.Alu
set_option linter.unusedVariables false
set_option linter.unusedSimpArgs false

def hRd (f : Nat) : Bool := ([true, true, true, false, false, true, true, true, true, false] : List Bool).getD f false
def hRs1 (f : Nat) : Bool := ([false, false, true, true, true, true, true, true, true, false] : List Bool).getD f false
def hRs2 (f : Nat) : Bool := ([false, false, false, true, true, false, true, false, false, false] : List Bool).getD f false
def hasF (f : Nat) : Int := ([1, 1, 3, 6, 6, 3, 7, 3, 3, 0] : List Int).getD f 0
def putFn (f : Nat) : Nat := ([80, 82, 85, 87, 89, 91, 93, 85, 93, 93] : List Nat).getD f 0
def getFn (f : Nat) : Nat := ([81, 83, 86, 88, 90, 92, 94, 95, 94, 94] : List Nat).getD f 0
def maskF (f : Nat) : Int := ([127, 127, 28799, 28799, 28799, 4261441663, 4261441663, 28799, 4293947519, 4294967295] : List Int).getD f 0
/-- An Imm laid. -/
def putF (f : Nat) (n : Int) : Int :=
  match f with
  | 0 => n - n % 4096
  | 1 => n / 1048576 % 2 * 2147483648 + n / 2 % 1024 * 2097152 + n / 2048 % 2 * 1048576 + n / 4096 % 256 * 4096
  | 2 => n % 4096 * 1048576
  | 3 => n / 4096 % 2 * 2147483648 + n / 32 % 64 * 33554432 + n / 2 % 16 * 256 + n / 2048 % 2 * 128
  | 4 => n % 32 * 128 + n / 32 % 128 * 33554432
  | 5 => n % 32 * 1048576
  | 7 => n % 4096 * 1048576
  | _ => 0
/-- An Imm taken out. -/
def getF (f : Nat) (x : Int) : Int :=
  match f with
  | 0 => wrap32 (x - x % 4096)
  | 1 => ((x / 2147483648 * 1048576 + x / 4096 % 256 * 4096 + x / 1048576 % 2 * 2048 + x / 2097152 % 1024 * 2) + 1048576) % (2 * 1048576) - 1048576
  | 2 => wrap32 x / 1048576
  | 3 => ((x / 2147483648 * 4096 + x / 128 % 2 * 2048 + x / 33554432 % 64 * 32 + x / 256 % 16 * 2) + 4096) % (2 * 4096) - 4096
  | 4 => ((x / 33554432 * 32 + x / 128 % 32) + 2048) % (2 * 2048) - 2048
  | 5 => x / 1048576 % 32
  | 7 => x / 1048576
  | _ => 0
/-- A word without what is a field. -/
def maskA (f : Nat) (w : Int) : Int :=
  match f with
  | 0 => w % 128
  | 1 => w % 128
  | 2 => w % 128 + w / 4096 % 8 * 4096
  | 3 => w % 128 + w / 4096 % 8 * 4096
  | 4 => w % 128 + w / 4096 % 8 * 4096
  | 5 => w % 128 + w / 4096 % 8 * 4096 + w / 33554432 * 33554432
  | 6 => w % 128 + w / 4096 % 8 * 4096 + w / 33554432 * 33554432
  | 7 => w % 128 + w / 4096 % 8 * 4096
  | 8 => w % 128 + w / 4096 % 8 * 4096 + w / 1048576 * 1048576
  | _ => w
def rdF (f : Nat) (w : Int) : Int := if hRd f then w / 128 % 32 else 0
def rs1F (f : Nat) (w : Int) : Int := if hRs1 f then w / 32768 % 32 else 0
def rs2F (f : Nat) (w : Int) : Int := if hRs2 f then w / 1048576 % 32 else 0
/-- May a form have this Imm? -/
def immOk (f : Nat) (n : Int) : Bool :=
  match f with
  | 0 => decide (n % 4096 = 0)
  | 1 => decide (-1048576 ≤ n ∧ n < 1048576 ∧ n % 2 = 0)
  | 2 => decide (-2048 ≤ n ∧ n < 2048)
  | 3 => decide (-4096 ≤ n ∧ n < 4096 ∧ n % 2 = 0)
  | 4 => decide (-2048 ≤ n ∧ n < 2048)
  | 5 => decide (0 ≤ n ∧ n < 32)
  | 7 => decide (0 ≤ n ∧ n < 4096)
  | _ => decide (n = 0)
def regOk (has : Bool) (r : Int) : Bool := if has then decide (r ≤ 15) else r == 0
/-- Has an instruction of a form just what the form has? -/
def okS (f : Nat) (o rd rs1 rs2 imm : Int) : Bool := regOk (hRd f) rd && regOk (hRs1 f) rs1 && regOk (hRs2 f) rs2 && immOk f imm && specB o imm
/-- Its word. -/
def wordS (f : Nat) (word rd rs1 rs2 imm : Int) : Int :=
  word + (if hRd f then rd * 128 else 0) + (if hRs1 f then rs1 * 32768 else 0) + (if hRs2 f then rs2 * 1048576 else 0) + putF f (imm % 4294967296)
/-- Each family and number. -/
def pairs : List (Nat × Nat) := (List.range 18).flatMap fun k => (List.range (fam k).words.length).map fun i => (k, i)
def formP (p : Nat × Nat) : Nat := (fam p.1).form
def opP (p : Nat × Nat) : Int := (fam p.1).first + p.2
def wordP (p : Nat × Nat) : Int := (fam p.1).words.getD p.2 0
def nameP (p : Nat × Nat) : ByteArray := (fam p.1).names.getD p.2 ByteArray.empty
theorem mem_pairs {k i : Nat} (hk : k < 18) (hi : i < (fam k).words.length) : (k, i) ∈ pairs := by
  simp only [pairs, List.mem_flatMap, List.mem_map, List.mem_range]
  exact ⟨k, hk, i, hi, rfl⟩
theorem of_pairs {p : Nat × Nat} (h : p ∈ pairs) : p.1 < 18 ∧ p.2 < (fam p.1).words.length := by
  simp only [pairs, List.mem_flatMap, List.mem_map, List.mem_range] at h
  obtain ⟨k, hk, i, hi, rfl⟩ := h
  exact ⟨hk, hi⟩
/-- The word of an instruction, and the error. -/
def putS (o rd rs1 rs2 imm : Int) : Int × Int :=
  match pairs.find? (fun p => opP p == o) with
  | none => (0, 2)
  | some p => if okS (formP p) o rd rs1 rs2 imm then (wordS (formP p) (wordP p) rd rs1 rs2 imm, 0) else (0, 2)
structure I5 where
  op : Int
  rd : Int
  rs1 : Int
  rs2 : Int
  imm : Int
def hitB (w : Int) (p : Nat × Nat) : Bool := maskA (formP p) w == wordP p
def regsB (f : Nat) (w : Int) : Bool := decide (rdF f w ≤ 15) && decide (rs1F f w ≤ 15) && decide (rs2F f w ≤ 15)
def decS (p : Nat × Nat) (w : Int) : I5 := ⟨opP p, rdF (formP p) w, rs1F (formP p) w, rs2F (formP p) w, getF (formP p) w⟩
def goodB (p : Nat × Nat) (w : Int) : Bool := regsB (formP p) w && specB (opP p) (getF (formP p) w)
/-- The instruction of a word, and the error. -/
def getS (w : Int) : I5 × Int :=
  match pairs.find? (hitB w) with
  | none => (⟨0, 0, 0, 0, 0⟩, 5)
  | some p => if goodB p w then (decS p w, 0) else (⟨0, 0, 0, 0, 0⟩, 5)
/-- How the code of a word tells a row: what two rows may not share. -/
def apartB (p q : Nat × Nat) : Bool :=
  p == q || wordP p % 128 != wordP q % 128 || (formP p == 9 && formP q == 9 && wordP p != wordP q) ||
  (decide (2 ≤ formP p) && decide (2 ≤ formP q) && formP p != 9 && formP q != 9 && (wordP p / 4096 % 8 != wordP q / 4096 % 8 ||
    ((formP p == 5 || formP p == 6 || formP p == 8) && (formP q == 5 || formP q == 6 || formP q == 8) && (wordP p / 33554432 != wordP q / 33554432 ||
      (formP p == 8 && formP q == 8 && wordP p / 1048576 != wordP q / 1048576)))))
theorem apart : ∀ p ∈ pairs, ∀ q ∈ pairs, apartB p q = true := by decide +kernel
theorem words_in : ∀ p ∈ pairs, formP p < 10 ∧ 0 ≤ wordP p ∧ wordP p < 4294967296 ∧ maskA (formP p) (wordP p) = wordP p ∧ 1 ≤ opP p ∧ opP p < 69 := by decide +kernel
theorem ops_apart : ∀ p ∈ pairs, ∀ q ∈ pairs, opP p = opP q → p = q := by decide +kernel
theorem names_apart : ∀ p ∈ pairs, ∀ q ∈ pairs, nameP p = nameP q → p = q := by decide +kernel
theorem ops_all : ∀ o : Nat, o < 69 → o = 0 ∨ ∃ p ∈ pairs, opP p = (o : Int) := by decide +kernel

theorem forms10 {f : Nat} (h : f < 10) : f = 0 ∨ f = 1 ∨ f = 2 ∨ f = 3 ∨ f = 4 ∨ f = 5 ∨ f = 6 ∨ f = 7 ∨ f = 8 ∨ f = 9 := by omega
theorem hit_mod {p : Nat × Nat} (hp : p ∈ pairs) {w : Int} (h0 : 0 ≤ w) (h1 : w < 4294967296) (h : hitB w p = true) :
    wordP p % 128 = w % 128 ∧ (2 ≤ formP p → formP p ≠ 9 → wordP p / 4096 % 8 = w / 4096 % 8) ∧ (formP p = 5 ∨ formP p = 6 ∨ formP p = 8 → wordP p / 33554432 = w / 33554432) ∧
    (formP p = 8 → wordP p / 1048576 = w / 1048576) ∧ (formP p = 9 → wordP p = w) := by
  have hf := (words_in p hp).1
  have e : maskA (formP p) w = wordP p := by simpa [hitB] using h
  rw [← e]
  rcases forms10 hf with g | g | g | g | g | g | g | g | g | g <;> rw [g] <;> simp only [maskA] <;> refine ⟨?_, ?_, ?_, ?_, ?_⟩ <;> intros <;> first | trivial | omega
theorem hit_one {p q : Nat × Nat} (hp : p ∈ pairs) (hq : q ∈ pairs) {w : Int} (h0 : 0 ≤ w) (h1 : w < 4294967296) (h : hitB w p = true) (g : hitB w q = true) : p = q := by
  obtain ⟨a1, a2, a3, a4, a5⟩ := hit_mod hp h0 h1 h
  obtain ⟨b1, b2, b3, b4, b5⟩ := hit_mod hq h0 h1 g
  have A := apart p hp q hq
  simp only [apartB, Bool.or_eq_true, Bool.and_eq_true, beq_iff_eq, bne_iff_ne, ne_eq, decide_eq_true_eq] at A
  rcases A with ((A | A) | ⟨⟨A, B⟩, C⟩) | ⟨⟨⟨⟨A, B⟩, C⟩, D⟩, E⟩
  · exact A
  · exact absurd (a1.trans b1.symm) A
  · exact absurd ((a5 A).trans (b5 B).symm) C
  · rcases E with E | ⟨⟨F, G⟩, E⟩
    · exact absurd ((a2 A C).trans (b2 B D).symm) E
    · have F' : formP p = 5 ∨ formP p = 6 ∨ formP p = 8 := by rcases F with (F | F) | F <;> simp [F]
      have G' : formP q = 5 ∨ formP q = 6 ∨ formP q = 8 := by rcases G with (F | F) | F <;> simp [F]
      rcases E with E | ⟨⟨E1, E2⟩, E⟩
      · exact absurd ((a3 F').trans (b3 G').symm) E
      · exact absurd ((a4 E1).trans (b4 E2).symm) E
theorem getS_hit {p : Nat × Nat} (hp : p ∈ pairs) {w : Int} (h0 : 0 ≤ w) (h1 : w < 4294967296) (h : hitB w p = true) :
    getS w = if goodB p w then (decS p w, 0) else (⟨0, 0, 0, 0, 0⟩, 5) := by
  have e : pairs.find? (hitB w) = some p := by
    cases hq : pairs.find? (hitB w) with
    | none => exact absurd h (by have := List.find?_eq_none.mp hq p hp; simpa using this)
    | some q => rw [hit_one hp (List.mem_of_find?_eq_some hq) h0 h1 h (List.find?_some hq)]
  rw [getS, e]
theorem getS_none {w : Int} (h : ∀ p ∈ pairs, hitB w p = false) : getS w = (⟨0, 0, 0, 0, 0⟩, 5) := by
  have e : pairs.find? (hitB w) = none := List.find?_eq_none.mpr fun p hp => by rw [h p hp]; decide
  rw [getS, e]
theorem putS_of {p : Nat × Nat} (hp : p ∈ pairs) (rd rs1 rs2 imm : Int) :
    putS (opP p) rd rs1 rs2 imm = if okS (formP p) (opP p) rd rs1 rs2 imm then (wordS (formP p) (wordP p) rd rs1 rs2 imm, 0) else (0, 2) := by
  have e : pairs.find? (fun q => opP q == opP p) = some p := by
    cases hq : pairs.find? (fun q => opP q == opP p) with
    | none => exact absurd (beq_self_eq_true (opP p)) (List.find?_eq_none.mp hq p hp)
    | some q =>
      have h := List.find?_some hq
      rw [ops_apart q (List.mem_of_find?_eq_some hq) p hp (by simpa using h)]
  rw [putS, e]
theorem putS_no {o : Int} (h : o = 0 ∨ 69 ≤ o) (rd rs1 rs2 imm : Int) : putS o rd rs1 rs2 imm = (0, 2) := by
  have e : pairs.find? (fun q => opP q == o) = none := List.find?_eq_none.mpr fun p hp => by
    have := (words_in p hp).2.2.2.2
    simp only [beq_iff_eq]; omega
  rw [putS, e]

theorem jdig (n : Int) : ∃ a b c d e t : Int, (0 ≤ a ∧ a < 2) ∧ (0 ≤ b ∧ b < 1024) ∧ (0 ≤ c ∧ c < 2) ∧ (0 ≤ d ∧ d < 256) ∧ (0 ≤ e ∧ e < 2) ∧
    n / 1048576 % 2 = a ∧ n / 2 % 1024 = b ∧ n / 2048 % 2 = c ∧ n / 4096 % 256 = d ∧ n = t * 2097152 + a * 1048576 + d * 4096 + c * 2048 + b * 2 + e := by
  refine ⟨n / 1048576 % 2, n / 2 % 1024, n / 2048 % 2, n / 4096 % 256, n % 2, n / 2097152, by omega, by omega, by omega, by omega, by omega, rfl, rfl, rfl, rfl, ?_⟩
  have h1 : n / 2097152 = n / 1048576 / 2 := by omega
  have h2 : n / 1048576 = n / 4096 / 256 := by omega
  have h3 : n / 4096 = n / 2048 / 2 := by omega
  have h4 : n / 2048 = n / 2 / 1024 := by omega
  rw [h1, h2, h3, h4]
  generalize e1 : n / 2 = x1
  generalize e2 : x1 / 1024 = x2
  generalize e3 : x2 / 2 = x3
  generalize e4 : x3 / 256 = x4
  omega
theorem bdig (n : Int) : ∃ a b c d e t : Int, (0 ≤ a ∧ a < 2) ∧ (0 ≤ b ∧ b < 64) ∧ (0 ≤ c ∧ c < 16) ∧ (0 ≤ d ∧ d < 2) ∧ (0 ≤ e ∧ e < 2) ∧
    n / 4096 % 2 = a ∧ n / 32 % 64 = b ∧ n / 2 % 16 = c ∧ n / 2048 % 2 = d ∧ n = t * 8192 + a * 4096 + d * 2048 + b * 32 + c * 2 + e := by
  refine ⟨n / 4096 % 2, n / 32 % 64, n / 2 % 16, n / 2048 % 2, n % 2, n / 8192, by omega, by omega, by omega, by omega, by omega, rfl, rfl, rfl, rfl, ?_⟩
  have h1 : n / 8192 = n / 4096 / 2 := by omega
  have h2 : n / 4096 = n / 2048 / 2 := by omega
  have h3 : n / 2048 = n / 32 / 64 := by omega
  have h4 : n / 32 = n / 2 / 16 := by omega
  rw [h1, h2, h3, h4]
  generalize e1 : n / 2 = x1
  generalize e2 : x1 / 16 = x2
  generalize e3 : x2 / 64 = x3
  generalize e4 : x3 / 2 = x4
  omega
/-- The getter of a jump, of the pieces of a word. -/
theorem jget (a b c d x r : Int) (ha : 0 ≤ a ∧ a < 2) (hb : 0 ≤ b ∧ b < 1024) (hc : 0 ≤ c ∧ c < 2) (hd : 0 ≤ d ∧ d < 256) (hr : 0 ≤ r ∧ r < 4096) (hx : x = a * 2147483648 + b * 2097152 + c * 1048576 + d * 4096 + r) :
    x / 2147483648 = a ∧ x / 4096 % 256 = d ∧ x / 1048576 % 2 = c ∧ x / 2097152 % 1024 = b := by
  subst hx; omega
theorem bget (a b c d x p r : Int) (ha : 0 ≤ a ∧ a < 2) (hb : 0 ≤ b ∧ b < 64) (hc : 0 ≤ c ∧ c < 16) (hd : 0 ≤ d ∧ d < 2) (hp : 0 ≤ p ∧ p < 128) (hr : 0 ≤ r ∧ r < 8192) (hx : x = a * 2147483648 + b * 33554432 + r * 4096 + c * 256 + d * 128 + p) :
    x / 2147483648 = a ∧ x / 128 % 2 = d ∧ x / 33554432 % 64 = b ∧ x / 256 % 16 = c := by
  subst hx; refine ⟨?_, ?_, ?_, ?_⟩ <;> omega
theorem wdig (w : Int) (h0 : 0 ≤ w) (h1 : w < 4294967296) : ∃ x0 x7 x12 x15 x20 x25 : Int, (0 ≤ x0 ∧ x0 < 128) ∧ (0 ≤ x7 ∧ x7 < 32) ∧ (0 ≤ x12 ∧ x12 < 8) ∧ (0 ≤ x15 ∧ x15 < 32) ∧ (0 ≤ x20 ∧ x20 < 32) ∧ (0 ≤ x25 ∧ x25 < 128) ∧
    w % 128 = x0 ∧ w / 128 % 32 = x7 ∧ w / 4096 % 8 = x12 ∧ w / 32768 % 32 = x15 ∧ w / 1048576 % 32 = x20 ∧ w / 33554432 = x25 ∧ w = x25 * 33554432 + x20 * 1048576 + x15 * 32768 + x12 * 4096 + x7 * 128 + x0 := by
  refine ⟨w % 128, w / 128 % 32, w / 4096 % 8, w / 32768 % 32, w / 1048576 % 32, w / 33554432, by omega, by omega, by omega, by omega, by omega, by omega, rfl, rfl, rfl, rfl, rfl, rfl, ?_⟩
  have h1 : w / 33554432 = w / 1048576 / 32 := by omega
  have h2 : w / 1048576 = w / 32768 / 32 := by omega
  have h3 : w / 32768 = w / 4096 / 8 := by omega
  have h4 : w / 4096 = w / 128 / 32 := by omega
  rw [h1, h2, h3, h4]
  generalize e1 : w / 128 = x1
  generalize e2 : x1 / 32 = x2
  generalize e3 : x2 / 8 = x3
  generalize e4 : x3 / 32 = x4
  omega
theorem jput (a b c d n t : Int) (ha : 0 ≤ a ∧ a < 2) (hb : 0 ≤ b ∧ b < 1024) (hc : 0 ≤ c ∧ c < 2) (hd : 0 ≤ d ∧ d < 256) (hn : n = t * 2097152 + a * 1048576 + d * 4096 + c * 2048 + b * 2) :
    n / 1048576 % 2 = a ∧ n / 2 % 1024 = b ∧ n / 2048 % 2 = c ∧ n / 4096 % 256 = d := by
  subst hn; refine ⟨?_, ?_, ?_, ?_⟩ <;> omega
theorem bput (a b c d n t : Int) (ha : 0 ≤ a ∧ a < 2) (hb : 0 ≤ b ∧ b < 64) (hc : 0 ≤ c ∧ c < 16) (hd : 0 ≤ d ∧ d < 2) (hn : n = t * 8192 + a * 4096 + d * 2048 + b * 32 + c * 2) :
    n / 4096 % 2 = a ∧ n / 32 % 64 = b ∧ n / 2 % 16 = c ∧ n / 2048 % 2 = d := by
  subst hn; refine ⟨?_, ?_, ?_, ?_⟩ <;> omega
theorem jall (w : Int) (h0 : 0 ≤ w) (h1 : w < 4294967296) : ∃ a b c d r : Int, (0 ≤ a ∧ a < 2) ∧ (0 ≤ b ∧ b < 1024) ∧ (0 ≤ c ∧ c < 2) ∧ (0 ≤ d ∧ d < 256) ∧ (0 ≤ r ∧ r < 4096) ∧
    w / 2147483648 = a ∧ w / 4096 % 256 = d ∧ w / 1048576 % 2 = c ∧ w / 2097152 % 1024 = b ∧ w % 4096 = r ∧ w = a * 2147483648 + b * 2097152 + c * 1048576 + d * 4096 + r := by
  refine ⟨w / 2147483648, w / 2097152 % 1024, w / 1048576 % 2, w / 4096 % 256, w % 4096, by omega, by omega, by omega, by omega, by omega, rfl, rfl, rfl, rfl, rfl, ?_⟩
  have h1 : w / 2147483648 = w / 2097152 / 1024 := by omega
  have h2 : w / 2097152 = w / 1048576 / 2 := by omega
  have h3 : w / 1048576 = w / 4096 / 256 := by omega
  rw [h1, h2, h3]
  generalize e1 : w / 4096 = x1
  generalize e2 : x1 / 256 = x2
  generalize e3 : x2 / 2 = x3
  omega
/-- What is laid comes back, just where it may be. -/
theorem imm_is (f : Nat) (hf : f < 10) (n : Int) (h0 : -2147483648 ≤ n) (h1 : n < 2147483648) : (!(getF f (putF f (n % 4294967296)) != n)) = immOk f n := by
  rw [Bool.eq_iff_iff]
  simp only [Bool.not_eq_true', bne_eq_false_iff_eq]
  rcases forms10 hf with g | g | g | g | g | g | g | g | g | g <;> subst g <;> simp only [getF, putF, immOk, decide_eq_true_eq]
  · unfold wrap32; omega
  · obtain ⟨a, b, c, d, e, t, ha, hb, hc, hd, he, q1, q2, q3, q4, q5⟩ := jdig (n % 4294967296)
    rw [q1, q2, q3, q4]
    obtain ⟨g1, g2, g3, g4⟩ := jget a b c d (a * 2147483648 + b * 2097152 + c * 1048576 + d * 4096) 0 ha hb hc hd (by decide) (by omega)
    rw [g1, g2, g3, g4]
    clear g1 g2 g3 g4 q1 q2 q3 q4
    omega
  · unfold wrap32; omega
  · obtain ⟨a, b, c, d, e, t, ha, hb, hc, hd, he, q1, q2, q3, q4, q5⟩ := bdig (n % 4294967296)
    rw [q1, q2, q3, q4]
    obtain ⟨g1, g2, g3, g4⟩ := bget a b c d (a * 2147483648 + b * 33554432 + c * 256 + d * 128) 0 0 ha hb hc hd (by decide) (by decide) (by omega)
    rw [g1, g2, g3, g4]
    clear g1 g2 g3 g4 q1 q2 q3 q4
    omega
  · omega
  · omega
  · omega
  · omega
  · omega
  · omega
theorem reg_in {has : Bool} {r : Int} (h : regOk has r = true) : r ≤ 15 := by
  cases has <;> simp [regOk] at h <;> omega
/-- Of a word that was put: which row it hits, and what comes back of it. -/
theorem put_word (f : Nat) (hf : f < 10) (o word rd rs1 rs2 imm : Int) (hw0 : 0 ≤ word) (hw1 : word < 4294967296) (hm : maskA f word = word)
    (b1 : 0 ≤ rd) (b2 : 0 ≤ rs1) (b3 : 0 ≤ rs2) (b4 : -2147483648 ≤ imm ∧ imm < 2147483648) (ok : okS f o rd rs1 rs2 imm = true) :
    0 ≤ wordS f word rd rs1 rs2 imm ∧ wordS f word rd rs1 rs2 imm < 4294967296 ∧ maskA f (wordS f word rd rs1 rs2 imm) = word ∧
    rdF f (wordS f word rd rs1 rs2 imm) = rd ∧ rs1F f (wordS f word rd rs1 rs2 imm) = rs1 ∧ rs2F f (wordS f word rd rs1 rs2 imm) = rs2 ∧ getF f (wordS f word rd rs1 rs2 imm) = imm := by
  simp only [okS, Bool.and_eq_true] at ok
  obtain ⟨⟨⟨⟨r1, r2⟩, r3⟩, r4⟩, _⟩ := ok
  obtain ⟨b4, b5⟩ := b4
  rcases forms10 hf with g | g | g | g | g | g | g | g | g | g <;> subst g <;>
    simp [regOk, hRd, hRs1, hRs2, immOk] at r1 r2 r3 r4 <;> simp [maskA] at hm <;>
    simp only [wordS, rdF, rs1F, rs2F, hRd, hRs1, hRs2, maskA, putF, getF, List.getD_cons_zero, List.getD_cons_succ, if_true, if_false, Bool.false_eq_true, Int.add_zero]
  · refine ⟨?_, ?_, ?_, ?_, ?_, ?_, ?_⟩ <;> (try unfold wrap32) <;> omega
  · obtain ⟨a, b, c, d, e, t, ha, hb, hc, hd, he, q1, q2, q3, q4, q5⟩ := jdig (imm % 4294967296)
    rw [q1, q2, q3, q4]
    generalize hx : word + rd * 128 + (a * 2147483648 + b * 2097152 + c * 1048576 + d * 4096) = x
    obtain ⟨g1, g2, g3, g4⟩ := jget a b c d x (word + rd * 128) ha hb hc hd (by omega) (by omega)
    rw [g1, g2, g3, g4]
    clear g1 g2 g3 g4 q1 q2 q3 q4
    refine ⟨?_, ?_, ?_, ?_, ?_, ?_, ?_⟩ <;> omega
  · refine ⟨?_, ?_, ?_, ?_, ?_, ?_, ?_⟩ <;> (try unfold wrap32) <;> omega
  · obtain ⟨a, b, c, d, e, t, ha, hb, hc, hd, he, q1, q2, q3, q4, q5⟩ := bdig (imm % 4294967296)
    rw [q1, q2, q3, q4]
    obtain ⟨x0, x12, h12, h0', hwd⟩ : ∃ x0 x12 : Int, (0 ≤ x12 ∧ x12 < 8) ∧ (0 ≤ x0 ∧ x0 < 128) ∧ word = x12 * 4096 + x0 := ⟨word % 128, word / 4096 % 8, by omega, by omega, by omega⟩
    subst hwd
    clear hm
    generalize hx : x12 * 4096 + x0 + rs1 * 32768 + rs2 * 1048576 + (a * 2147483648 + b * 33554432 + c * 256 + d * 128) = x
    obtain ⟨g1, g2, g3, g4⟩ := bget a b c d x x0 (x12 + rs1 * 8 + rs2 * 256) ha hb hc hd h0' (by omega) (by omega)
    rw [g1, g2, g3, g4]
    clear g1 g2 g3 g4 q1 q2 q3 q4
    refine ⟨?_, ?_, ?_, ?_, ?_, ?_, ?_⟩ <;> omega
  · obtain ⟨x0, x12, h12, h0', hwd⟩ : ∃ x0 x12 : Int, (0 ≤ x12 ∧ x12 < 8) ∧ (0 ≤ x0 ∧ x0 < 128) ∧ word = x12 * 4096 + x0 := ⟨word % 128, word / 4096 % 8, by omega, by omega, by omega⟩
    subst hwd
    clear hm
    obtain ⟨p, hp, hp0, hp1⟩ : ∃ p, imm % 4294967296 % 32 = p ∧ 0 ≤ p ∧ p < 32 := ⟨_, rfl, by omega, by omega⟩
    obtain ⟨q, hq, hq0, hq1⟩ : ∃ q, imm % 4294967296 / 32 % 128 = q ∧ 0 ≤ q ∧ q < 128 := ⟨_, rfl, by omega, by omega⟩
    have hi : (q * 32 + p + 2048) % 4096 - 2048 = imm := by omega
    rw [hp, hq]
    clear hp hq
    generalize hx : x12 * 4096 + x0 + rs1 * 32768 + rs2 * 1048576 + (p * 128 + q * 33554432) = x
    have g1 : x / 33554432 = q := by omega
    have g2 : x / 128 % 32 = p := by
      have : x / 128 = (q * 32 + rs2) * 8192 + rs1 * 256 + x12 * 32 + p := by omega
      omega
    have g3 : x / 1048576 % 32 = rs2 := by
      have : x / 1048576 = q * 32 + rs2 := by omega
      omega
    rw [g1, g2, g3]
    clear g1 g2 g3
    refine ⟨?_, ?_, ?_, ?_, ?_, ?_, ?_⟩ <;> omega
  · refine ⟨?_, ?_, ?_, ?_, ?_, ?_, ?_⟩ <;> omega
  · refine ⟨?_, ?_, ?_, ?_, ?_, ?_, ?_⟩ <;> omega
  · refine ⟨?_, ?_, ?_, ?_, ?_, ?_, ?_⟩ <;> omega
  · refine ⟨?_, ?_, ?_, ?_, ?_, ?_, ?_⟩ <;> omega
  · refine ⟨?_, ?_, ?_, ?_, ?_, ?_, ?_⟩ <;> omega
/-- Of a word that hits a row, with registers that are: it is put back. -/
theorem get_word (f : Nat) (hf : f < 10) (o word w : Int) (h0 : 0 ≤ w) (h1 : w < 4294967296) (hm : maskA f w = word) (hr : regsB f w = true) (hs : specB o (getF f w) = true) :
    okS f o (rdF f w) (rs1F f w) (rs2F f w) (getF f w) = true ∧ wordS f word (rdF f w) (rs1F f w) (rs2F f w) (getF f w) = w := by
  simp only [regsB, Bool.and_eq_true, decide_eq_true_eq] at hr
  obtain ⟨⟨r1, r2⟩, r3⟩ := hr
  subst hm
  constructor
  · simp only [okS, Bool.and_eq_true]
    refine ⟨⟨⟨⟨?_, ?_⟩, ?_⟩, ?_⟩, hs⟩
    · unfold regOk rdF; unfold rdF at r1; cases h : hRd f <;> simp [h] at r1 ⊢; exact r1
    · unfold regOk rs1F; unfold rs1F at r2; cases h : hRs1 f <;> simp [h] at r2 ⊢; exact r2
    · unfold regOk rs2F; unfold rs2F at r3; cases h : hRs2 f <;> simp [h] at r3 ⊢; exact r3
    · rcases forms10 hf with g | g | g | g | g | g | g | g | g | g <;> subst g <;> simp only [getF, immOk, decide_eq_true_eq] <;> (try unfold wrap32) <;> omega
  · rcases forms10 hf with g | g | g | g | g | g | g | g | g | g <;> subst g <;>
    simp only [wordS, rdF, rs1F, rs2F, hRd, hRs1, hRs2, maskA, putF, getF, List.getD_cons_zero, List.getD_cons_succ, if_true, if_false, Bool.false_eq_true, Int.add_zero] at r1 r2 r3 ⊢
    · unfold wrap32; omega
    · clear r1 hs
      obtain ⟨a, b, c, d, r, ha, hb, hc, hd, hr, q1, q2, q3, q4, q5, q6⟩ := jall w h0 h1
      have q7 : w % 128 = r % 128 := by omega
      have q8 : w / 128 % 32 = r / 128 := by omega
      rw [q1, q2, q3, q4, q7, q8]
      obtain ⟨g1, g2, g3, g4⟩ := jput a b c d (((a * 1048576 + d * 4096 + c * 2048 + b * 2 + 1048576) % (2 * 1048576) - 1048576) % 4294967296) ((((a * 1048576 + d * 4096 + c * 2048 + b * 2 + 1048576) % (2 * 1048576) - 1048576) % 4294967296) / 2097152) ha hb hc hd (by omega)
      rw [g1, g2, g3, g4]
      clear g1 g2 g3 g4 q1 q2 q3 q4 q7 q8
      omega
    · unfold wrap32; omega
    · clear r2 r3 hs
      obtain ⟨x0, x7, x12, x15, x20, x25, b0, b7, b12, b15, b20, b25, q1, q2, q3, q4, q5, q6, q7⟩ := wdig w h0 h1
      obtain ⟨a, b, hb, hb2, hb3⟩ : ∃ a b : Int, (0 ≤ a ∧ a < 2) ∧ (0 ≤ b ∧ b < 64) ∧ x25 = a * 64 + b := ⟨x25 / 64, x25 % 64, by omega, by omega, by omega⟩
      obtain ⟨c, d, hc, hc2, hc3⟩ : ∃ c d : Int, (0 ≤ c ∧ c < 16) ∧ (0 ≤ d ∧ d < 2) ∧ x7 = c * 2 + d := ⟨x7 / 2, x7 % 2, by omega, by omega, by omega⟩
      subst hb3 hc3
      obtain ⟨g1, g2, g3, g4⟩ := bget a b c d w x0 (x12 + x15 * 8 + x20 * 256) hb hb2 hc hc2 b0 (by omega) (by omega)
      rw [g1, g2, g3, g4, q1, q3, q4, q5]
      clear g1 g2 g3 g4 q1 q2 q3 q4 q5 q6
      obtain ⟨g1, g2, g3, g4⟩ := bput a b c d (((a * 4096 + d * 2048 + b * 32 + c * 2 + 4096) % (2 * 4096) - 4096) % 4294967296) ((((a * 4096 + d * 2048 + b * 32 + c * 2 + 4096) % (2 * 4096) - 4096) % 4294967296) / 8192) hb hb2 hc hc2 (by omega)
      rw [g1, g2, g3, g4]
      clear g1 g2 g3 g4
      omega
    · clear r2 r3 hs
      obtain ⟨x0, x7, x12, x15, x20, x25, b0, b7, b12, b15, b20, b25, q1, q2, q3, q4, q5, q6, q7⟩ := wdig w h0 h1
      rw [q1, q2, q3, q4, q5, q6]
      clear q1 q2 q3 q4 q5 q6
      omega
    · omega
    · omega
    · omega
    · omega
theorem get_in (f : Nat) (hf : f < 10) (w : Int) (h0 : 0 ≤ w) (h1 : w < 4294967296) : -2147483648 ≤ getF f w ∧ getF f w < 2147483648 := by
  rcases forms10 hf with g | g | g | g | g | g | g | g | g | g <;> subst g <;> simp only [getF] <;> (try unfold wrap32) <;> omega
/-- What is put comes back. -/
theorem put_get (o rd rs1 rs2 imm a : Int) (b1 : 0 ≤ rd) (b2 : 0 ≤ rs1) (b3 : 0 ≤ rs2) (b4 : -2147483648 ≤ imm ∧ imm < 2147483648)
    (h : putS o rd rs1 rs2 imm = (a, 0)) : 0 ≤ a ∧ a < 4294967296 ∧ getS a = (⟨o, rd, rs1, rs2, imm⟩, 0) := by
  unfold putS at h
  split at h
  · cases h
  · rename_i p hp
    have hm := List.mem_of_find?_eq_some hp
    have ho : opP p = o := by have := List.find?_some hp; simpa using this
    subst ho
    split at h
    · rename_i ok
      obtain ⟨hf, w0, w1, wm, _⟩ := words_in p hm
      obtain rfl : wordS (formP p) (wordP p) rd rs1 rs2 imm = a := congrArg Prod.fst h
      obtain ⟨q0, q1, q2, q3, q4, q5, q6⟩ := put_word (formP p) hf (opP p) (wordP p) rd rs1 rs2 imm w0 w1 wm b1 b2 b3 b4 ok
      refine ⟨q0, q1, ?_⟩
      rw [getS_hit hm q0 q1 (by simp [hitB, q2])]
      have ok' := ok
      simp only [okS, Bool.and_eq_true] at ok'
      obtain ⟨⟨⟨⟨r1, r2⟩, r3⟩, r4⟩, r5⟩ := ok'
      have hg : goodB p (wordS (formP p) (wordP p) rd rs1 rs2 imm) = true := by
        simp only [goodB, regsB, q3, q4, q5, q6, r5, Bool.and_true, Bool.and_eq_true, decide_eq_true_eq]
        exact ⟨⟨reg_in r1, reg_in r2⟩, reg_in r3⟩
      rw [hg]
      simp only [decS, q3, q4, q5, q6, if_true]
    · cases h
/-- The instruction of a word has just that word. -/
theorem get_put (w : Int) (h0 : 0 ≤ w) (h1 : w < 4294967296) (k : I5) (h : getS w = (k, 0)) : putS k.op k.rd k.rs1 k.rs2 k.imm = (w, 0) := by
  unfold getS at h
  split at h
  · cases h
  · rename_i p hp
    have hm := List.mem_of_find?_eq_some hp
    have hh := List.find?_some hp
    split at h
    · rename_i g
      obtain rfl : decS p w = k := congrArg Prod.fst h
      simp only [decS]
      rw [putS_of hm]
      simp only [goodB, Bool.and_eq_true] at g
      obtain ⟨q1, q2⟩ := get_word (formP p) (words_in p hm).1 (opP p) (wordP p) w h0 h1 (by simpa [hitB] using hh) g.1 g.2
      rw [q1, q2]; rfl
    · cases h
/-- Of the row that a word hits, and of that alone, is it put. -/
theorem dec_put {p : Nat × Nat} (hm : p ∈ pairs) (w : Int) (h0 : 0 ≤ w) (h1 : w < 4294967296) :
    (putS (decS p w).op (decS p w).rd (decS p w).rs1 (decS p w).rs2 (decS p w).imm = (w, 0)) ↔ hitB w p = true ∧ goodB p w = true := by
  have hf := (words_in p hm).1
  constructor
  · intro h
    have R : ∀ (b : Bool) (x : Int), 0 ≤ (if b = true then x % 32 else 0) := by intro b x; split <;> omega
    obtain ⟨_, _, hg⟩ := put_get _ _ _ _ _ _ (R _ _) (R _ _) (R _ _) (get_in _ hf w h0 h1) h
    unfold getS at hg
    split at hg
    · exact absurd (congrArg Prod.snd hg) (show ¬ (5 : Int) = 0 by decide)
    · rename_i q hq
      have hqm := List.mem_of_find?_eq_some hq
      have hh := List.find?_some hq
      split at hg
      · rename_i g
        have e : opP q = opP p := congrArg (fun t => t.1.op) hg
        obtain rfl := ops_apart q hqm p hm e
        exact ⟨hh, g⟩
      · exact absurd (congrArg Prod.snd hg) (show ¬ (5 : Int) = 0 by decide)
  · rintro ⟨a, b⟩
    have := getS_hit hm h0 h1 a
    rw [b] at this
    exact get_put w h0 h1 _ this
end Go.Proofs.Ytadbonmkockakaa.Ins
