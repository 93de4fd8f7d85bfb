/- Labels in plain Lean: the digits of a number without the zeros at its end. No program. -/
import Derived.Lib.ItoaNum
import Derived.Shelf.Strings.Trim
import Derived.WalkKit
namespace Go.Proofs.YtpbhncgjnmaojaaGreatDoor
set_option linter.unusedVariables false
set_option linter.unusedSimpArgs false

/-- a number without the zeros at its end (10 steps are enough for four digits) -/
def strip : Nat → Nat → Nat
  | 0, n => n
  | f + 1, n => if n % 10 = 0 then strip f (n / 10) else n
def stripped (n : Nat) : Nat := strip 4 n
/-- the label of a mark -/
def labN (n : Nat) : List UInt8 := Lib.decDigits (stripped n)
def labLen (n : Nat) : Nat := (labN n).length
theorem dec_small {n : Nat} (h : n < 10) : Lib.decDigits n = [UInt8.ofNat (48 + n)] := by
  rw [Lib.decDigits, dif_pos h]
theorem dec_more {n : Nat} (h : ¬ n < 10) : Lib.decDigits n = Lib.decDigits (n / 10) ++ [UInt8.ofNat (48 + n % 10)] := by
  rw [Lib.decDigits, dif_neg h]
theorem digit_zero {k : Nat} (h : k < 10) : UInt8.ofNat (48 + k) = 48 ↔ k = 0 := by
  constructor
  · intro e
    have := congrArg UInt8.toNat e
    simp [UInt8.toNat_ofNat] at this
    omega
  · rintro rfl
    rfl
theorem trim_zero (l : List UInt8) : Lib.trimRightB (l ++ [48]) 48 = Lib.trimRightB l 48 := by
  unfold Lib.trimRightB
  rw [List.reverse_append]
  rfl
theorem trim_other (l : List UInt8) {c : UInt8} (h : c ≠ 48) : Lib.trimRightB (l ++ [c]) 48 = l ++ [c] := by
  unfold Lib.trimRightB
  rw [List.reverse_append]
  have : (c == 48) = false := by simpa using h
  show ((c :: l.reverse).dropWhile (· == 48)).reverse = l ++ [c]
  rw [List.dropWhile_cons, if_neg (by simp [this])]
  simp
theorem trim_dec : ∀ (f n : Nat), 1 ≤ n → n < 10 ^ (f + 1) → Lib.trimRightB (Lib.decDigits n) 48 = Lib.decDigits (strip f n)
  | 0, n, h1, h2 => by
    have h : n < 10 := by simpa using h2
    rw [strip, dec_small h]
    exact trim_other [] (fun e => by have := (digit_zero h).1 e; omega)
  | f + 1, n, h1, h2 => by
    rw [strip]
    by_cases hz : n % 10 = 0
    · have hn : ¬ n < 10 := by omega
      rw [if_pos hz, dec_more hn, hz]
      show Lib.trimRightB (Lib.decDigits (n / 10) ++ [48]) 48 = _
      rw [trim_zero]
      exact trim_dec f (n / 10) (by omega) (by rw [Nat.pow_succ] at h2; omega)
    · rw [if_neg hz]
      by_cases hn : n < 10
      · rw [dec_small hn]
        exact trim_other [] (fun e => by have := (digit_zero hn).1 e; omega)
      · rw [dec_more hn]
        exact trim_other _ (fun e => hz ((digit_zero (by omega)).1 e))
/-- the program's label is the reference's -/
theorem label_trim {n : Nat} (h1 : 1 ≤ n) (h2 : n ≤ 9999) : Lib.trimRightB (Lib.itoa (n : Int)) 48 = labN n := by
  rw [Lib.itoa, if_neg (by omega), Int.toNat_natCast]
  exact trim_dec 4 n h1 (by omega)
theorem strip_pos : ∀ (f n : Nat), 1 ≤ n → 1 ≤ strip f n ∧ strip f n ≤ n
  | 0, n, h => ⟨h, Nat.le_refl _⟩
  | f + 1, n, h => by
    rw [strip]
    split
    · have := strip_pos f (n / 10) (by omega)
      omega
    · exact ⟨h, Nat.le_refl _⟩
/-- with four digits the zeros end within four steps -/
theorem stripped_last {n : Nat} (h1 : 1 ≤ n) (h2 : n ≤ 9999) : stripped n % 10 ≠ 0 := by
  unfold stripped
  simp only [strip]
  split
  · split
    · split
      · split <;> omega
      · assumption
    · assumption
  · assumption
theorem dec_len {n : Nat} (h : n ≤ 9999) : 1 ≤ (Lib.decDigits n).length ∧ (Lib.decDigits n).length ≤ 4 := by
  by_cases h1 : n < 10
  · rw [dec_small h1]; simp
  rw [dec_more h1]
  by_cases h2 : n / 10 < 10
  · rw [dec_small h2]; simp
  rw [dec_more h2]
  by_cases h3 : n / 10 / 10 < 10
  · rw [dec_small h3]; simp
  rw [dec_more h3, dec_small (by omega)]
  simp
theorem labLen_bd {n : Nat} (h1 : 1 ≤ n) (h2 : n ≤ 9999) : 1 ≤ labLen n ∧ labLen n ≤ 4 :=
  dec_len (by have := strip_pos 4 n h1; unfold stripped; omega)
/-- the ends of the label of a tick with mark n at a place -/
def endL (n : Nat) (p : Int) : Int := p - 120 * (labLen n : Int) / 2
def endR (n : Nat) (p : Int) : Int := p - 120 * (labLen n : Int) / 2 + 120 * (labLen n : Int)
/-- whether the labels of two ticks collide (mark, place) -/
def hitB (n : Nat) (p : Int) (m : Nat) (q : Int) : Bool := decide (endL n p < endR m q) && decide (endL m q < endR n p)
theorem hitB_sym (n : Nat) (p : Int) (m : Nat) (q : Int) : hitB n p m q = hitB m q n p := by
  unfold hitB
  exact Bool.and_comm _ _
theorem hit_max (n : Nat) (p : Int) (m : Nat) (q : Int) (hn : 1 ≤ labLen n) (hm : 1 ≤ labLen m) : decide (max (endL n p) (endL m q) < min (endR n p) (endR m q)) = hitB n p m q := by
  unfold hitB endL endR
  rw [← Bool.decide_and]
  apply decide_eq_decide.2
  omega
end Go.Proofs.YtpbhncgjnmaojaaGreatDoor
