/- Slices of int64 copied and compared; the scales of a rule (layer 11). No condition. -/
import Derived.Test.YtpbhncgjnmaojaaGreatDoorSl
import Derived.Test.YtpbhncgjnmaojaaGreatDoorErr2
import Derived.BigQuiet
import Derived.Deep.QuietTactic
namespace Go.Proofs.YtpbhncgjnmaojaaGreatDoor
open Go.RowKit
set_option linter.unusedVariables false

theorem infoI64' : (Tryz.prog.info? 2).map (fun i => (i.zero, i.size, i.bytes)) = some (some (.int .i64 0), 1, 8) := by kernel_rfl
theorem Sees.cellOf {w : World} {B : Nat} {A : Option Addr} {l : List Int} (hs : Sees w B A (l.map (Value.int .i64))) {k : Nat} (hk : k < l.length) :
    ∃ b off x, A = some ⟨b, off, none⟩ ∧ b < B ∧ l[k]? = some x ∧ w.cell? ⟨b, off + k, none⟩ = some (.int .i64 x) := by
  obtain ⟨b, off, e, hb, hcell⟩ := hs.addr (by rw [List.length_map]; omega)
  exact ⟨b, off, l[k], e, hb, List.getElem?_eq_getElem hk, hcell k _ (by rw [List.getElem?_map, List.getElem?_eq_getElem hk]; rfl)⟩

theorem belowOf {B : Nat} {w : World} (q : Nat) : Below B w (w.drewN q) := belowDraws (Below.refl _ _) q
/-- the scales of a part of a rule -/
def goodTo (l : List Int) : Nat → Bool
  | 0 => true
  | k + 1 => goodTo l k && (errScaleB (l.getD k 0) && !decide (l.getD k 0 ∈ l.take k))
def scalesB (l : List Int) : Bool := goodTo l l.length && inB (l.length : Int) 1 6
theorem goodTo_no {l : List Int} {k : Nat} (h : goodTo l k = false) : ∀ j, k ≤ j → goodTo l j = false
  | 0, hj => by rwa [show k = 0 by omega] at h
  | j + 1, hj => by
    by_cases hk : k = j + 1
    · rw [← hk]; exact h
    · rw [goodTo, goodTo_no h j (by omega)]; rfl
theorem scalesB_no {l : List Int} {k : Nat} (hk : k ≤ l.length) (h : goodTo l k = false) : scalesB l = false := by
  rw [scalesB, goodTo_no h _ hk]; rfl
theorem goodTo_step {l : List Int} {k : Nat} {x : Int} (hx : l[k]? = some x) : goodTo l (k + 1) = (goodTo l k && (errScaleB x && !decide (x ∈ l.take k))) := by
  simp [goodTo, List.getD, hx]
theorem goodTo_bad1 {l : List Int} {k : Nat} {x : Int} (hx : l[k]? = some x) (h : errScaleB x = false) : goodTo l (k + 1) = false := by simp [goodTo_step hx, h]
theorem goodTo_bad2 {l : List Int} {k : Nat} {x : Int} (hx : l[k]? = some x) (h : x ∈ l.take k) : goodTo l (k + 1) = false := by simp [goodTo_step hx, h]
theorem goodTo_ok {l : List Int} {k : Nat} {x : Int} (hx : l[k]? = some x) (hg : goodTo l k = true) (h1 : errScaleB x = true) (h2 : ¬ x ∈ l.take k) : goodTo l (k + 1) = true := by simp [goodTo_step hx, h1, h2, hg]
end Go.Proofs.YtpbhncgjnmaojaaGreatDoor
