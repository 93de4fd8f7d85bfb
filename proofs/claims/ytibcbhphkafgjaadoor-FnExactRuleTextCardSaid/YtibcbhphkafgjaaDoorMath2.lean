/- Plain mathematics of positions and places on a scale: no program in sight. -/
import Derived.Test.YtibcbhphkafgjaaDoorMath
namespace Go.Proofs.YtibcbhphkafgjaaDoor

theorem ceilDiv_bd {a b : Int} (hb : 0 < b) : a ≤ b * ceilDiv a b ∧ b * ceilDiv a b < a + b := by
  unfold ceilDiv
  have h1 := Int.mul_ediv_add_emod (-a) b
  have h2 := Int.emod_nonneg (-a) (show b ≠ 0 by omega)
  have h3 := Int.emod_lt_of_pos (-a) hb
  rw [Int.mul_neg]
  omega
theorem floor_bd {a b : Int} (hb : 0 < b) : b * (a / b) ≤ a ∧ a < b * (a / b) + b := by
  have h1 := Int.mul_ediv_add_emod a b
  have h2 := Int.emod_nonneg a (show b ≠ 0 by omega)
  have h3 := Int.emod_lt_of_pos a hb
  omega
theorem ceilDiv_mono {a c b : Int} (hb : 0 < b) (h : a ≤ c) : ceilDiv a b ≤ ceilDiv c b := by
  unfold ceilDiv
  have := Int.ediv_le_ediv hb (show -c ≤ -a by omega)
  omega
theorem floor_le_ceil {a c b : Int} (hb : 0 < b) (h : a ≤ c) : a / b ≤ ceilDiv c b := by
  have h1 := floor_bd (a := a) hb
  have h2 := ceilDiv_bd (a := c) hb
  have : b * (a / b) ≤ b * ceilDiv c b := by omega
  exact Int.le_of_mul_le_mul_left this hb

theorem ediv_bd {a b M : Int} (hb : 0 < b) (hM : 0 ≤ M) (h1 : -M ≤ a) (h2 : a ≤ M) : -M ≤ a / b ∧ a / b ≤ M := by
  have e : M * 1 ≤ M * b := Int.mul_le_mul_of_nonneg_left (show (1 : Int) ≤ b by omega) hM
  refine ⟨Int.le_ediv_of_mul_le hb (by rw [Int.neg_mul]; omega), ?_⟩
  have := floor_bd (a := a) hb
  by_cases h : a / b ≤ 0
  · omega
  · have e2 : 1 * (a / b) ≤ b * (a / b) := Int.mul_le_mul_of_nonneg_right (show (1 : Int) ≤ b by omega) (by omega)
    omega

theorem tmod_bd (a : Int) {b : Int} (hb : 0 < b) : -b < a.tmod b ∧ a.tmod b < b := by
  have h2 := Int.tmod_lt_of_pos a hb
  have h3 := Int.tmod_lt_of_pos (-a) hb
  rw [Int.neg_tmod] at h3
  omega
theorem tmod_mod (a b : Int) : (a.tmod b + b) % b = a % b := by
  have h1 := Int.mul_tdiv_add_tmod a b
  have e : a = a.tmod b + b * a.tdiv b := by omega
  rw [Int.add_emod_right]
  conv => rhs; rw [e]
  rw [Int.add_mul_emod_self_left]

/-- a power of ten -/
def p10 (k : Nat) : Int := (10 : Int) ^ k
theorem p10_succ (k : Nat) : p10 (k + 1) = p10 k * 10 := Int.pow_succ 10 k
theorem p10_pos : ∀ k, 1 ≤ p10 k
  | 0 => by simp [p10]
  | k + 1 => by have := p10_pos k; rw [p10_succ]; omega
theorem p10_le {k : Nat} (h : k ≤ 12) : p10 k ≤ 1000000000000 := by
  match k, h with
  | 0, _ => simp [p10]
  | 1, _ => simp [p10]
  | 2, _ => simp [p10]
  | 3, _ => simp [p10]
  | 4, _ => simp [p10]
  | 5, _ => simp [p10]
  | 6, _ => simp [p10]
  | 7, _ => simp [p10]
  | 8, _ => simp [p10]
  | 9, _ => simp [p10]
  | 10, _ => simp [p10]
  | 11, _ => simp [p10]
  | 12, _ => simp [p10]

/-- the logarithm of the digits -/
def dL (d : Int) : Int := logL (d * 100000)
def dU (d : Int) : Int := logU (d * 100000)
def Dig (d : Int) : Prop := 1000 ≤ d ∧ d ≤ 9999
theorem dL_bd {d : Int} (h : Dig d) : 0 ≤ dL d ∧ dL d < 1048576 := logL_bd (by have := h.1; omega) (by have := h.2; omega)
theorem dU_bd {d : Int} (h : Dig d) : 1 ≤ dU d ∧ dU d ≤ 1048576 := logU_bd (by have := h.1; omega) (by have := h.2; omega)
theorem dL_lt_dU {d : Int} (h : Dig d) : dL d < dU d := logL_lt_logU (by have := h.1; omega) (by have := h.2; omega)
theorem dL_mono {d e : Int} (h : 1000 ≤ d) (h' : e ≤ 9999) (hde : d ≤ e) : dL d ≤ dL e := logL_mono (by omega) (by omega) (by omega)
theorem dU_mono {d e : Int} (h : 1000 ≤ d) (h' : e ≤ 9999) (hde : d ≤ e) : dU d ≤ dU e := logU_mono (by omega) (by omega) (by omega)

/-- the logarithm of a figure -/
def fL (d t : Int) : Int := dL d + t * 1048576
def fU (d t : Int) : Int := dU d + t * 1048576

/-- the position of a figure that a scale shows -/
def pL (s d t : Int) : Int :=
  if s = 5 then (d - 1000) * 1048576 / 9000
  else if s = 1 then (dL d + 1048576 * (t % 2)) / 2
  else if s = 2 then (dL d + 1048576 * (t % 3)) / 3
  else if s = 3 then 1048576 - dU d
  else if s = 4 then (if dL d - dU 3142 < 0 then dL d - dU 3142 + 1048576 else dL d - dU 3142)
  else dL d
def pU (s d t : Int) : Int :=
  if s = 5 then ceilDiv ((d - 1000) * 1048576) 9000
  else if s = 1 then ceilDiv (dU d + 1048576 * (t % 2)) 2
  else if s = 2 then ceilDiv (dU d + 1048576 * (t % 3)) 3
  else if s = 3 then 1048576 - dL d
  else if s = 4 then (if dL d - dU 3142 < 0 then dU d - dL 3142 + 1048576 else dU d - dL 3142)
  else dU d

theorem p_bd {s d t : Int} (h : Dig d) : -1 ≤ pL s d t ∧ pL s d t ≤ pU s d t ∧ pU s d t ≤ 2097152 := by
  have h1 := dL_bd h
  have h2 := dU_bd h
  have h3 := dL_lt_dU h
  have h4 : Dig 3142 := ⟨by omega, by omega⟩
  have h5 := dL_bd h4
  have h6 := dU_bd h4
  have h7 := dL_lt_dU h4
  unfold Dig at h
  unfold pL pU ceilDiv
  generalize dL d = a at *
  generalize dU d = b at *
  generalize dL 3142 = a' at *
  generalize dU 3142 = b' at *
  split
  · omega
  · split
    · omega
    · split
      · omega
      · split
        · omega
        · split
          · split <;> omega
          · omega

/-- the place of a figure on a scale of a length -/
def plL (s d t len : Int) : Int := pL s d t * len / 1048576
def plU (s d t len : Int) : Int := ceilDiv (pU s d t * len) 1048576

theorem mul_bd {a b A B : Int} (h1 : -A ≤ a) (h2 : a ≤ A) (h3 : 0 ≤ b) (h4 : b ≤ B) (hA : 0 ≤ A) : -(A * B) ≤ a * b ∧ a * b ≤ A * B := by
  have e1 : a * b ≤ A * b := Int.mul_le_mul_of_nonneg_right h2 h3
  have e2 : A * b ≤ A * B := Int.mul_le_mul_of_nonneg_left h4 hA
  have e3 : -A * b ≤ a * b := Int.mul_le_mul_of_nonneg_right h1 h3
  rw [Int.neg_mul] at e3
  omega
theorem p_mul_bd {s d t len : Int} (h : Dig d) (h1 : 1 ≤ len) (h2 : len ≤ 100000) :
    (-209715200000 ≤ pL s d t * len ∧ pL s d t * len ≤ 209715200000) ∧ (-209715200000 ≤ pU s d t * len ∧ pU s d t * len ≤ 209715200000) := by
  have hp := p_bd (s := s) (t := t) h
  exact ⟨mul_bd (A := 2097152) (B := 100000) (by omega) (by omega) (by omega) h2 (by omega), mul_bd (A := 2097152) (B := 100000) (by omega) (by omega) (by omega) h2 (by omega)⟩
theorem pl_bd {s d t len : Int} (h : Dig d) (h1 : 1 ≤ len) (h2 : len ≤ 100000) : -200001 ≤ plL s d t len ∧ plL s d t len ≤ plU s d t len ∧ plU s d t len ≤ 200001 := by
  have hp := p_bd (s := s) (t := t) h
  have hm := p_mul_bd (s := s) (t := t) h h1 h2
  refine ⟨?_, floor_le_ceil (by omega) (Int.mul_le_mul_of_nonneg_right hp.2.1 (by omega)), ?_⟩
  · unfold plL
    generalize pL s d t * len = x at *
    omega
  · unfold plU ceilDiv
    generalize pU s d t * len = x at *
    omega

/-- how many decades a scale shows -/
def decades (s : Int) : Int := if s = 1 then 2 else if s = 2 then 3 else 1
theorem decades_bd (s : Int) : 1 ≤ decades s ∧ decades s ≤ 3 := by unfold decades; split <;> (try split) <;> omega

end Go.Proofs.YtibcbhphkafgjaaDoor
