/- The laws on LabelText and DoCollide (layer 9). No condition but the table. -/
import Derived.Test.YtpbhncgjnmaojaaGreatDoorLc
import Derived.Deep.RegionHeld3
import Derived.Deep.DeepCutAuto
namespace Go.Proofs.YtpbhncgjnmaojaaGreatDoor
open Go.RowKit
set_option linter.unusedVariables false
set_option linter.unusedSimpArgs false

theorem Full.next (w : World) (o : Obj) (T : TypeId) (cs : Array Value) : Full ((w.alloc o).alloc (.cells cs T)) (w.heap.size + 1) T cs := by
  have h := Full.made (w.alloc o) T cs
  rwa [show (w.alloc o).heap.size = w.heap.size + 1 by simp] at h
theorem ckL_one (p : Int × Int × Int) : ckL [p] = if okL p = true then 0 else 2 := by
  unfold ckL
  simp
theorem ckL_two (p q : Int × Int × Int) : ckL [p, q] = if okL p = true ∧ okL q = true then 0 else 2 := by
  unfold ckL
  simp
def rText (p : Int × Int × Int) : List UInt8 × Int := if okL p = true then (labN p.1.toNat, 0) else ([], 2)
def rColl (p q : Int × Int × Int) : Bool × Int := if okL p = true ∧ okL q = true then (hitB p.1.toNat p.2.1 q.1.toNat q.2.1, 0) else (false, 2)
theorem endStrInt {p : List UInt8 × Int} {x : List UInt8} {y : Int} (h : p = (x, y)) : Ending.returned (.tuple #[.string ⟨x.toArray⟩, .int .i64 y]) = .returned (.tuple #[.string ⟨p.1.toArray⟩, .int .i64 p.2]) := by subst h; rfl
/-- a tick as described, its mark a natural number -/
theorem okL_nat {a b c : Int} (h : okL (a, b, c) = true) : ∃ m : Nat, a = (m : Int) ∧ 1000 ≤ m ∧ m ≤ 9999 ∧ 0 ≤ b ∧ b ≤ 100000 ∧ 0 ≤ c ∧ c ≤ 4 := by
  have := okL_iff.1 h
  simp only at this
  exact ⟨a.toNat, by omega, by omega, by omega, by omega, by omega, by omega, by omega⟩
theorem l09Is_bel (a b c : Int) (w : World) :
    Calls Tryz.prog 48 #[.agg #[.int .i64 a, .int .i64 b, .int .i64 c]] w fun e w' => e = .returned (.bool (okL (a, b, c))) ∧ Below w.heap.size w w' :=
  (l09Is_any a b c w).mono (by
    rintro e w' ⟨rfl, rfl⟩
    exact ⟨rfl, Below.alloc (Below.refl _ _) (Nat.le_refl _) _⟩)
end Go.Proofs.YtpbhncgjnmaojaaGreatDoor
