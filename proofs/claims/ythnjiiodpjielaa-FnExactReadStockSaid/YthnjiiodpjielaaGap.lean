/- Logarithms of neighbouring figures lie apart: nine thousand steps, looked at by the kernel; points rise strictly. No program. -/
import Derived.Test.YthnjiiodpjielaaMath2
namespace Go.Proofs.Ythnjiiodpjielaa
set_option linter.unusedVariables false
set_option linter.unusedSimpArgs false

def cq (y : Nat) : Nat := (y + 99999999) / 100000000
def c10 (y : Nat) : Nat := (y + 9) / 10
def sel (n a b : Nat) : Nat := Nat.rec (motive := fun _ => Nat) a (fun _ _ => b) n
def lN : Nat → Nat → Nat → Nat
  | 0, _, a => a
  | k + 1, x, a => sel (x * x / 100000000 / 1000000000) (lN k (x * x / 100000000) (2 * a)) (lN k (x * x / 100000000 / 10) (2 * a + 1))
def cN : Nat → Nat → Nat → Nat
  | 0, _, a => a
  | k + 1, x, a => sel (cq (x * x) / 1000000000) (cN k (cq (x * x)) (2 * a)) (cN k (c10 (cq (x * x))) (2 * a + 1))
theorem selIf (n a b : Nat) : sel n a b = if n = 0 then a else b := by
  cases n with
  | zero => rfl
  | succ n => simp [sel]
theorem runL_in : ∀ (k : Nat) (x : Int), runL (k + 1) x = stepL (runL k x) := fun _ _ => rfl
def itL : Nat → Int × Int → Int × Int
  | 0, s => s
  | k + 1, s => itL k (stepL s)
def itU : Nat → Int × Int → Int × Int
  | 0, s => s
  | k + 1, s => itU k (stepU s)
theorem itL_out : ∀ (k : Nat) (s : Int × Int), itL (k + 1) s = stepL (itL k s)
  | 0, s => rfl
  | k + 1, s => by rw [itL, itL_out k (stepL s)]; rfl
theorem itU_out : ∀ (k : Nat) (s : Int × Int), itU (k + 1) s = stepU (itU k s)
  | 0, s => rfl
  | k + 1, s => by rw [itU, itU_out k (stepU s)]; rfl
theorem runL_it : ∀ (k : Nat) (x : Int), runL k x = itL k (x, 0)
  | 0, x => rfl
  | k + 1, x => by rw [itL_out, ← runL_it k x]; rfl
theorem runU_it : ∀ (k : Nat) (x : Int), runU k x = itU k (x, 0)
  | 0, x => rfl
  | k + 1, x => by rw [itU_out, ← runU_it k x]; rfl
theorem ceil8 (y : Nat) : ceilDiv (y : Int) 100000000 = (cq y : Int) := by unfold ceilDiv cq; omega
theorem ceil1 (y : Nat) : ceilDiv (y : Int) 10 = (c10 y : Int) := by unfold ceilDiv c10; omega
theorem itL_N : ∀ (k x a : Nat), (itL k ((x : Int), (a : Int))).2 = (lN k x a : Int)
  | 0, x, a => rfl
  | k + 1, x, a => by
    rw [itL, lN, selIf, stepL]
    have e : (x : Int) * (x : Int) / 100000000 = ((x * x / 100000000 : Nat) : Int) := by rw [← Int.natCast_mul]; generalize x * x = y; omega
    simp only [e]
    generalize x * x / 100000000 = y
    by_cases h : y / 1000000000 = 0
    · rw [if_neg (by omega), if_pos h]
      exact itL_N k y (2 * a)
    · rw [if_pos (by omega), if_neg h]
      exact itL_N k (y / 10) (2 * a + 1)
theorem itU_N : ∀ (k x a : Nat), (itU k ((x : Int), (a : Int))).2 = (cN k x a : Int)
  | 0, x, a => rfl
  | k + 1, x, a => by
    rw [itU, cN, selIf, stepU]
    have e : ceilDiv ((x : Int) * (x : Int)) 100000000 = ((cq (x * x) : Nat) : Int) := by rw [← ceil8, Int.natCast_mul]
    simp only [e]
    generalize cq (x * x) = y
    by_cases h : y / 1000000000 = 0
    · rw [if_neg (by omega), if_pos h]
      exact itU_N k y (2 * a)
    · rw [if_pos (by omega), if_neg h]
      rw [ceil1]
      exact itU_N k (c10 y) (2 * a + 1)
theorem dL_N (d : Nat) : dL (d : Int) = (lN 20 (d * 100000) 0 : Int) := by
  have e : (d : Int) * 100000 = ((d * 100000 : Nat) : Int) := by omega
  rw [dL, logL, runL_it, e]
  exact itL_N 20 (d * 100000) 0
theorem dU_N (d : Nat) : dU (d : Int) = (cN 20 (d * 100000) 0 : Int) + 1 := by
  have e : (d : Int) * 100000 = ((d * 100000 : Nat) : Int) := by omega
  rw [dU, logU, runU_it, e]
  have h := itU_N 20 (d * 100000) 0
  exact congrArg (· + 1) h
def gapN (d : Nat) : Bool := Nat.ble (lN 20 (d * 100000) 0 + 8) (lN 20 ((d + 1) * 100000) 0) && Nat.ble (cN 20 (d * 100000) 0 + 8) (cN 20 ((d + 1) * 100000) 0)
def gapsN : Nat → Nat → Bool
  | 0, _ => true
  | k + 1, d => gapN (d + k) && gapsN k d
theorem gapsN_at : ∀ {k d j : Nat}, gapsN k d = true → j < k → gapN (d + j) = true
  | 0, _, _, _, h => by omega
  | k + 1, d, j, h, hj => by
    rw [gapsN, Bool.and_eq_true] at h
    by_cases e : j = k
    · rw [e]; exact h.1
    · exact gapsN_at h.2 (by omega)
theorem gaps1 : gapsN 1000 1000 = true := by decide +kernel
theorem gaps2 : gapsN 1000 2000 = true := by decide +kernel
theorem gaps3 : gapsN 1000 3000 = true := by decide +kernel
theorem gaps4 : gapsN 1000 4000 = true := by decide +kernel
theorem gaps5 : gapsN 1000 5000 = true := by decide +kernel
theorem gaps6 : gapsN 1000 6000 = true := by decide +kernel
theorem gaps7 : gapsN 1000 7000 = true := by decide +kernel
theorem gaps8 : gapsN 1000 8000 = true := by decide +kernel
theorem gaps9 : gapsN 999 9000 = true := by decide +kernel
theorem gap_at {d : Nat} (h1 : 1000 ≤ d) (h2 : d < 9999) : gapN d = true := by
  by_cases c2 : d < 2000
  · have := gapsN_at (j := d - 1000) gaps1 (by omega)
    rwa [show 1000 + (d - 1000) = d by omega] at this
  by_cases c3 : d < 3000
  · have := gapsN_at (j := d - 2000) gaps2 (by omega)
    rwa [show 2000 + (d - 2000) = d by omega] at this
  by_cases c4 : d < 4000
  · have := gapsN_at (j := d - 3000) gaps3 (by omega)
    rwa [show 3000 + (d - 3000) = d by omega] at this
  by_cases c5 : d < 5000
  · have := gapsN_at (j := d - 4000) gaps4 (by omega)
    rwa [show 4000 + (d - 4000) = d by omega] at this
  by_cases c6 : d < 6000
  · have := gapsN_at (j := d - 5000) gaps5 (by omega)
    rwa [show 5000 + (d - 5000) = d by omega] at this
  by_cases c7 : d < 7000
  · have := gapsN_at (j := d - 6000) gaps6 (by omega)
    rwa [show 6000 + (d - 6000) = d by omega] at this
  by_cases c8 : d < 8000
  · have := gapsN_at (j := d - 7000) gaps7 (by omega)
    rwa [show 7000 + (d - 7000) = d by omega] at this
  by_cases c9 : d < 9000
  · have := gapsN_at (j := d - 8000) gaps8 (by omega)
    rwa [show 8000 + (d - 8000) = d by omega] at this
  · have := gapsN_at (j := d - 9000) gaps9 (by omega)
    rwa [show 9000 + (d - 9000) = d by omega] at this
/-- neighbouring figures lie apart -/
theorem d_gap {d : Int} (h1 : 1000 ≤ d) (h2 : d < 9999) : dL d + 8 ≤ dL (d + 1) ∧ dU d + 8 ≤ dU (d + 1) := by
  obtain ⟨n, rfl⟩ := Int.eq_ofNat_of_zero_le (show 0 ≤ d by omega)
  have g := gap_at (d := n) (by omega) (by omega)
  rw [gapN, Bool.and_eq_true] at g
  have g1 := Nat.le_of_ble_eq_true g.1
  have g2 := Nat.le_of_ble_eq_true g.2
  have e : (n : Int) + 1 = ((n + 1 : Nat) : Int) := by omega
  rw [e, dL_N, dL_N, dU_N, dU_N]
  omega
theorem d_last : dL 9999 + 8 ≤ 1048576 ∧ dU 9999 + 8 ≤ 1048576 ∧ dL 1000 = 0 ∧ dU 1000 = 1 := by decide +kernel
theorem d_3142 : dL 3142 - dU 3142 < 0 ∧ ¬ dL 3143 - dU 3142 < 0 := by decide +kernel
end Go.Proofs.Ythnjiiodpjielaa
