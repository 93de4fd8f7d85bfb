/- Labels: the ends of a label (layer 9). No condition but the table. -/
import Derived.Test.YtpbhncgjnmaojaaGreatDoorLt
namespace Go.Proofs.YtpbhncgjnmaojaaGreatDoor
open Go.RowKit
set_option linter.unusedVariables false
set_option linter.unusedSimpArgs false

set_option maxHeartbeats 2000000 in
theorem labelEnds_any (m : Nat) (p h : Int) (w : World) (h0 : 1 ≤ m) (h1 : m ≤ 9999) (p0 : 0 ≤ p) (p1 : p ≤ 100000) (hT : Tab w) :
    Calls Tryz.prog 42 #[.agg #[.int .i64 (m : Int), .int .i64 p, .int .i64 h]] w fun e w' => e = .returned (.tuple #[.int .i64 (endL m p), .int .i64 (endR m p)]) ∧ Below w.heap.size w w' := by
  have D := fun W hW => labelText_any m p h W h0 h1 hW
  have lb := labLen_bd h0 h1
  have hsz : (ByteArray.mk (labN m).toArray).size = labLen m := by simp [ByteArray.size, labLen]
  have HE := Lib.hid (show endL m p = p - 120 * (labLen m : Int) / 2 ∧ endR m p = p - 120 * (labLen m : Int) / 2 + 120 * (labLen m : Int) from ⟨rfl, rfl⟩)
  generalize endL m p = eL at *
  generalize endR m p = eR at *
  generalize labLen m = L at *
  have e1 : IntKind.i64.wrap (p - 120 * (L : Int) / 2) = p - 120 * (L : Int) / 2 := IntWalk.i64_in _ (by omega)
  have e2 : IntKind.i64.wrap (p + 120 * (L : Int)) = p + 120 * (L : Int) := IntWalk.i64_in _ (by omega)
  have e3 : IntKind.i64.wrap (p + 120 * (L : Int) - 120 * (L : Int) / 2) = p + 120 * (L : Int) - 120 * (L : Int) / 2 := IntWalk.i64_in _ (by omega)
  go_enter Tryz.func42, Tryz.ntmps42
  go_wp2_with fail
  refine (D _ (hT.over (Below.alloc (Below.refl _ _) (Nat.le_refl _) _))).mono ?_
  rintro e w1 ⟨rfl, hb1⟩
  have q0 : w1.cell? ⟨w.heap.size, 0, none⟩ = some (.int .i64 (m : Int)) := (by rw [hb1.cell (by simp)]; simp [go_sem])
  have q1 : w1.cell? ⟨w.heap.size, 1, none⟩ = some (.int .i64 p) := (by rw [hb1.cell (by simp)]; simp [go_sem])
  have B1 : Below w.heap.size w w1 := (Below.alloc (Below.refl _ _) (Nat.le_refl _) _).trans (hb1.mono (by simp))
  clear hb1
  go_wp2_with fail
  go_quiet (fail)
  clear e1 e2 e3
  go_wp2_with fail
  go_ret2
  exact ⟨endTwo (p := (eL, eR)) (by rw [HE.out.1, HE.out.2]; congr 1; omega), belowDraws B1 _⟩
set_option maxHeartbeats 2000000 in
theorem collide_any (m : Nat) (p h : Int) (m' : Nat) (p' h' : Int) (w : World) (h0 : 1 ≤ m) (h1 : m ≤ 9999) (p0 : 0 ≤ p) (p1 : p ≤ 100000) (h0' : 1 ≤ m') (h1' : m' ≤ 9999) (p0' : 0 ≤ p') (p1' : p' ≤ 100000) (hT : Tab w) :
    Calls Tryz.prog 30 #[.agg #[.int .i64 (m : Int), .int .i64 p, .int .i64 h], .agg #[.int .i64 (m' : Int), .int .i64 p', .int .i64 h']] w fun e w' => e = .returned (.bool (hitB m p m' p')) ∧ Below w.heap.size w w' := by
  have C1 := fun W hW => labelEnds_any m p h W h0 h1 p0 p1 hW
  have C2 := fun W hW => labelEnds_any m' p' h' W h0' h1' p0' p1' hW
  have HH := Lib.hid (show hitB m p m' p' = (decide (endL m p < endR m' p') && decide (endL m' p' < endR m p)) from rfl)
  generalize hitB m p m' p' = hb at *
  generalize endL m p = a at *
  generalize endR m p = b at *
  generalize endL m' p' = c at *
  generalize endR m' p' = d at *
  have BA : Below w.heap.size w ((w.alloc (.cells #[.int .i64 (m : Int), .int .i64 p, .int .i64 h] 49)).alloc (.cells #[.int .i64 (m' : Int), .int .i64 p', .int .i64 h'] 49)) := ((Below.refl _ _).alloc (Nat.le_refl _) _).alloc (by simp) _
  go_enter Tryz.func30, Tryz.ntmps30
  go_wp2_with fail
  refine (C1 _ (hT.over BA)).mono ?_
  rintro e w1 ⟨rfl, hb1⟩
  have q0 : w1.cell? ⟨w.heap.size + 1, 0, none⟩ = some (.int .i64 (m' : Int)) := (by rw [hb1.cell (by simp)]; simp [go_sem])
  have q1 : w1.cell? ⟨w.heap.size + 1, 1, none⟩ = some (.int .i64 p') := (by rw [hb1.cell (by simp)]; simp [go_sem])
  have q2 : w1.cell? ⟨w.heap.size + 1, 2, none⟩ = some (.int .i64 h') := (by rw [hb1.cell (by simp)]; simp [go_sem])
  have B1 : Below w.heap.size w w1 := BA.trans (hb1.mono (by simp; omega))
  clear hb1
  go_wp2_with fail
  refine (C2 _ (hT.over B1)).mono ?_
  rintro e w2 ⟨rfl, hb2⟩
  have B2 : Below w.heap.size w w2 := B1.trans (hb2.mono B1.size)
  go_wp2_with fail
  all_goals go_ret
  all_goals exact ⟨endBool (by rw [HH.out]; clear HH; simp [*]; try omega), B2⟩
end Go.Proofs.YtpbhncgjnmaojaaGreatDoor
