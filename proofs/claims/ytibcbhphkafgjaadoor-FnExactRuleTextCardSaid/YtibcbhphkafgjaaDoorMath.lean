/- Plain mathematics of the numbers, logarithms and places: no program in sight. -/
import Derived.Laws.Small
namespace Go.Proofs.YtibcbhphkafgjaaDoor

def inB (n lo hi : Int) : Bool := decide (lo ≤ n) && decide (n ≤ hi)
theorem inB_iff {n lo hi : Int} : inB n lo hi = true ↔ lo ≤ n ∧ n ≤ hi := by simp [inB]
theorem inB_false {n lo hi : Int} : inB n lo hi = false ↔ n < lo ∨ hi < n := by
  cases h : inB n lo hi
  · simp only [true_iff]
    by_cases h1 : lo ≤ n
    · by_cases h2 : n ≤ hi
      · rw [inB_iff.2 ⟨h1, h2⟩] at h; cases h
      · omega
    · omega
  · simp only [Bool.true_eq_false, false_iff]
    have := inB_iff.1 h
    omega

/-- a quotient, rounded up -/
def ceilDiv (a b : Int) : Int := -((-a) / b)

theorem floor_neg (a b : Int) (hb : 0 < b) (ha : a < 0) : a / b = if a.tmod b = 0 then a.tdiv b else a.tdiv b - 1 := by
  have h1 := Int.mul_tdiv_add_tmod a b
  have h2 : a.tmod b ≤ 0 := by
    have := Int.tmod_nonneg b (a := -a) (by omega)
    rw [Int.neg_tmod] at this
    omega
  have h3 : -b < a.tmod b := by
    have := Int.tmod_lt_of_pos (-a) hb
    rw [Int.neg_tmod] at this
    omega
  split
  · rename_i h0
    rw [h0] at h1
    have : a = b * a.tdiv b := by omega
    rw [this, Int.mul_ediv_cancel_left _ (by omega)]
    rw [Int.mul_tdiv_cancel_left _ (by omega)]
  · have e : a = (a.tmod b + b) + b * (a.tdiv b - 1) := by rw [Int.mul_sub]; omega
    generalize a.tmod b = m at *
    generalize a.tdiv b = q at *
    subst e
    rw [Int.add_mul_ediv_left _ _ (by omega), Int.ediv_eq_zero_of_lt (by omega) (by omega)]
    omega

theorem ceilDiv_nonneg {a b : Int} (ha : 0 ≤ a) (hb : 0 < b) : 0 ≤ ceilDiv a b := by
  unfold ceilDiv
  have : (-a) / b ≤ 0 := by
    have := Int.ediv_le_ediv hb (show -a ≤ 0 by omega)
    simpa using this
  omega

/-! ### logarithms by squaring -/
def stepL (s : Int × Int) : Int × Int :=
  if 1000000000 ≤ s.1 * s.1 / 100000000 then (s.1 * s.1 / 100000000 / 10, 2 * s.2 + 1) else (s.1 * s.1 / 100000000, 2 * s.2)
def stepU (s : Int × Int) : Int × Int :=
  if 1000000000 ≤ ceilDiv (s.1 * s.1) 100000000 then (ceilDiv (ceilDiv (s.1 * s.1) 100000000) 10, 2 * s.2 + 1) else (ceilDiv (s.1 * s.1) 100000000, 2 * s.2)
def runL : Nat → Int → Int × Int
  | 0, x => (x, 0)
  | k + 1, x => stepL (runL k x)
def runU : Nat → Int → Int × Int
  | 0, x => (x, 0)
  | k + 1, x => stepU (runU k x)
def logL (x : Int) : Int := (runL 20 x).2
def logU (x : Int) : Int := (runU 20 x).2 + 1

theorem sq_bd {x : Int} (h1 : 100000000 ≤ x) (h2 : x ≤ 999999999) : 10000000000000000 ≤ x * x ∧ x * x ≤ 999999998000000001 :=
  ⟨by simpa using Int.mul_le_mul h1 h1 (by omega) (by omega), by simpa using Int.mul_le_mul h2 h2 (by omega) (by omega)⟩

theorem stepL_bd {s : Int × Int} {m : Int} (h1 : 100000000 ≤ s.1) (h2 : s.1 ≤ 999999999) (h3 : 0 ≤ s.2) (h4 : s.2 < m) :
    100000000 ≤ (stepL s).1 ∧ (stepL s).1 ≤ 999999999 ∧ 0 ≤ (stepL s).2 ∧ (stepL s).2 < 2 * m := by
  have hq := sq_bd h1 h2
  unfold stepL
  generalize s.1 * s.1 = q at *
  split
  · dsimp only; omega
  · dsimp only; omega
theorem stepU_bd {s : Int × Int} {m : Int} (h1 : 100000000 ≤ s.1) (h2 : s.1 ≤ 999999999) (h3 : 0 ≤ s.2) (h4 : s.2 < m) :
    100000000 ≤ (stepU s).1 ∧ (stepU s).1 ≤ 999999999 ∧ 0 ≤ (stepU s).2 ∧ (stepU s).2 < 2 * m := by
  have hq := sq_bd h1 h2
  unfold stepU ceilDiv
  generalize s.1 * s.1 = q at *
  split
  · dsimp only; omega
  · dsimp only; omega

theorem runL_bd {x : Int} (h1 : 100000000 ≤ x) (h2 : x ≤ 999999999) : ∀ k, 100000000 ≤ (runL k x).1 ∧ (runL k x).1 ≤ 999999999 ∧ 0 ≤ (runL k x).2 ∧ (runL k x).2 < 2 ^ k
  | 0 => ⟨h1, h2, Int.le_refl _, by simp [runL]⟩
  | k + 1 => by
    have ih := runL_bd h1 h2 k
    have := stepL_bd ih.1 ih.2.1 ih.2.2.1 ih.2.2.2
    rw [Int.pow_succ, Int.mul_comm]
    exact this
theorem runU_bd {x : Int} (h1 : 100000000 ≤ x) (h2 : x ≤ 999999999) : ∀ k, 100000000 ≤ (runU k x).1 ∧ (runU k x).1 ≤ 999999999 ∧ 0 ≤ (runU k x).2 ∧ (runU k x).2 < 2 ^ k
  | 0 => ⟨h1, h2, Int.le_refl _, by simp [runU]⟩
  | k + 1 => by
    have ih := runU_bd h1 h2 k
    have := stepU_bd ih.1 ih.2.1 ih.2.2.1 ih.2.2.2
    rw [Int.pow_succ, Int.mul_comm]
    exact this
theorem logL_bd {x : Int} (h1 : 100000000 ≤ x) (h2 : x ≤ 999999999) : 0 ≤ logL x ∧ logL x < 1048576 := by
  have := (runL_bd h1 h2 20).2.2
  exact ⟨this.1, by simpa [logL] using this.2⟩
theorem logU_bd {x : Int} (h1 : 100000000 ≤ x) (h2 : x ≤ 999999999) : 1 ≤ logU x ∧ logU x ≤ 1048576 := by
  have := (runU_bd h1 h2 20).2.2
  have e : (2 : Int) ^ 20 = 1048576 := by decide
  rw [e] at this
  unfold logU
  omega

/-! ### monotone: the pairs (bits, rest) by their order -/
def lexLe (s t : Int × Int) : Prop := s.2 < t.2 ∨ (s.2 = t.2 ∧ s.1 ≤ t.1)
theorem mul_self_mono {a b : Int} (h0 : 0 ≤ a) (h : a ≤ b) : a * a ≤ b * b := Int.mul_le_mul h h h0 (by omega)
theorem stepL_mono {s t : Int × Int} (hs : 100000000 ≤ s.1) (h : lexLe s t) : lexLe (stepL s) (stepL t) := by
  unfold lexLe stepL at *
  rcases h with h | ⟨h, hx⟩
  · left; split <;> split <;> dsimp only <;> omega
  · have := mul_self_mono (by omega) hx
    generalize s.1 * s.1 = p at *
    generalize t.1 * t.1 = q at *
    rw [h]
    split <;> split <;> dsimp only <;> omega
theorem stepU_mono {s t : Int × Int} (hs : 100000000 ≤ s.1) (h : lexLe s t) : lexLe (stepU s) (stepU t) := by
  unfold lexLe stepU ceilDiv at *
  rcases h with h | ⟨h, hx⟩
  · left; split <;> split <;> dsimp only <;> omega
  · have := mul_self_mono (by omega) hx
    generalize s.1 * s.1 = p at *
    generalize t.1 * t.1 = q at *
    rw [h]
    split <;> split <;> dsimp only <;> omega
theorem stepLU_mono {s t : Int × Int} (hs : 100000000 ≤ s.1) (h : lexLe s t) : lexLe (stepL s) (stepU t) := by
  unfold lexLe stepL stepU ceilDiv at *
  rcases h with h | ⟨h, hx⟩
  · left; split <;> split <;> dsimp only <;> omega
  · have := mul_self_mono (by omega) hx
    generalize s.1 * s.1 = p at *
    generalize t.1 * t.1 = q at *
    rw [h]
    split <;> split <;> dsimp only <;> omega
theorem logL_mono {x y : Int} (h1 : 100000000 ≤ x) (h2 : y ≤ 999999999) (h : x ≤ y) : logL x ≤ logL y := by
  have : ∀ k, lexLe (runL k x) (runL k y) := by
    intro k
    induction k with
    | zero => exact .inr ⟨rfl, h⟩
    | succ k ih => exact stepL_mono (runL_bd h1 (by omega) k).1 ih
  have := this 20
  unfold lexLe at this
  unfold logL
  omega
theorem logU_mono {x y : Int} (h1 : 100000000 ≤ x) (h2 : y ≤ 999999999) (h : x ≤ y) : logU x ≤ logU y := by
  have : ∀ k, lexLe (runU k x) (runU k y) := by
    intro k
    induction k with
    | zero => exact .inr ⟨rfl, h⟩
    | succ k ih => exact stepU_mono (runU_bd h1 (by omega) k).1 ih
  have := this 20
  unfold lexLe at this
  unfold logU
  omega
theorem logL_lt_logU {x : Int} (h1 : 100000000 ≤ x) (h2 : x ≤ 999999999) : logL x < logU x := by
  have : ∀ k, lexLe (runL k x) (runU k x) := by
    intro k
    induction k with
    | zero => exact .inr ⟨rfl, Int.le_refl _⟩
    | succ k ih => exact stepLU_mono (runL_bd h1 (by omega) k).1 ih
  have := this 20
  unfold lexLe at this
  unfold logL logU
  omega

end Go.Proofs.YtibcbhphkafgjaaDoor
