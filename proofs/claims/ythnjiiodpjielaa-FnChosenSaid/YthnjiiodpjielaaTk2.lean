/- Ticks (layer 8): TicksBetween, NearestTick. No condition. -/
import Derived.Test.YthnjiiodpjielaaTk
namespace Go.Proofs.Ythnjiiodpjielaa
open Go.RowKit
set_option linter.unusedVariables false

theorem ckT_zero {l : List (Int × Int × Int)} {ys : List Int} (h : ckT l ys = 0) : l.length ≤ 150 ∧ (∀ y ∈ ys, isV y = true) ∧ ∀ p ∈ l, -1000000000000 ≤ p.2.1 ∧ p.2.1 ≤ 1000000000000 := by
  unfold ckT at h
  split at h
  · cases h
  · split at h
    · rename_i h1 h2
      simp only [Bool.and_eq_true, placesV, List.all_eq_true] at h2
      exact ⟨by omega, h2.1, fun p hp => inB_iff.1 (h2.2 p hp)⟩
    · cases h
theorem ckT_more (l : List (Int × Int × Int)) (ys : List Int) : ckT l ys = if ckT l [] = 0 ∧ ys.all isV = false then 2 else ckT l [] := by
  unfold ckT
  by_cases h : 150 < l.length
  · simp [h]
  · simp only [h, if_false]
    cases h1 : placesV l <;> cases h2 : ys.all isV <;> simp
theorem ckT_vals (l : List (Int × Int × Int)) (ys : List Int) : ckT l ys = 0 ∨ ckT l ys = 2 ∨ ckT l ys = 3 := by
  unfold ckT
  split
  · exact .inr (.inr rfl)
  · split
    · exact .inl rfl
    · exact .inr (.inl rfl)
def cntT (l : List (Int × Int × Int)) (a b : Int) : Int := ((l.filter fun t => inB t.2.1 a b).length : Int)
theorem cntT_next {l : List (Int × Int × Int)} {k : Nat} {p : Int × Int × Int} {a b : Int} (hp : l[k]? = some p) : cntT (l.take (k + 1)) a b = cntT (l.take k) a b + if inB p.2.1 a b = true then 1 else 0 := by
  unfold cntT
  rw [take_next hp, List.filter_append, List.length_append]
  by_cases h : inB p.2.1 a b = true
  · simp [h]
  · simp [h]
theorem cntT_bd (l : List (Int × Int × Int)) (a b : Int) : 0 ≤ cntT l a b ∧ cntT l a b ≤ l.length := by
  unfold cntT
  have := List.length_filter_le (fun t : Int × Int × Int => inB t.2.1 a b) l
  omega
def rBetween (l : List (Int × Int × Int)) (a b : Int) : Int × Int := if ckT l [a, b] = 0 then (cntT l a b, 0) else (0, ckT l [a, b])
end Go.Proofs.Ythnjiiodpjielaa
